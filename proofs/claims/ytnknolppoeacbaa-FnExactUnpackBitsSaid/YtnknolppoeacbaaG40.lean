-- Written by gp.py (a program of this session's, over the kit's print). Not trusted: Lean checks it.
import Derived.Test.YtnknolppoeacbaaG0h
import Derived.Test.YtnknolppoeacbaaG54
import Derived.Test.YtnknolppoeacbaaGBits
import Derived.Test.YtnknolppoeacbaaGLib
import Derived.Test.YtnknolppoeacbaaGReader
namespace Go.Proofs.Ytnknolppoeacbaa.G
open Go.RowKit Go.Proofs.YtnknolppoeacbaaW.PrintWords Go.Proofs.YtnknolppoeacbaaW.PrintLast Go.Proofs.YtnknolppoeacbaaW.PrintMore
attribute [local go_sem] max2_int min2_int max_two min_two max_three min_three max_four min_four   -- for this text's walks alone
set_option linter.unusedVariables false
set_option linter.unusedSimpArgs false

/-! ### spec_l01Take_num: function 40 -/
def spec_l01Take_num.l0 : Nat → Int → Int → Int → List Int → Int → Bool → Option (Int × Int × Bool)
  | 0, _, _, _, _, _, _ => none
  | k + 1, x1, x5, x6, x1000, x1001, x1002 => if x6 < x1 then ((spec_l01Take_bit.f x1000 x1001 x1002).bind fun bt134 => (spec_l01Take_num.l0 k x1 (wrap64 ((wrap64 (2 * x5)) + bt134.1)) (wrap64 (x6 + 1)) x1000 bt134.2.1 bt134.2.2)) else (some (x5, x1001, x1002))
def spec_l01Take_num.f (k : Nat) (s0_0 : List Int) (s0_1 : Int) (s0_2 : Bool) (a1 : Int) : Option (Int × Int × Bool) := spec_l01Take_num.l0 k a1 0 0 s0_0 s0_1 s0_2
theorem spec_l01Take_num.mono_l : ∀ k, (∀ y0 y1 y2 y3 y4 y5, LeO (spec_l01Take_num.l0 k y0 y1 y2 y3 y4 y5) (spec_l01Take_num.l0 (k + 1) y0 y1 y2 y3 y4 y5))
  | 0 => fun _ _ _ _ _ _ r h => by simp [spec_l01Take_num.l0] at h
  | k + 1 => by
    have ih0 := spec_l01Take_num.mono_l k
    · intro y0 y1 y2 y3 y4 y5
      unfold spec_l01Take_num.l0
      repeat' first
      | (with_reducible exact ih0 _ _ _ _ _ _)
      | (with_reducible exact LeO.refl _)
      | (with_reducible exact LeO.none _)
      | (with_reducible refine LeO.ite ?_ ?_)
      | (with_reducible refine LeO.bind ?_ (fun _ => ?_))
      | exact ih0 _ _ _ _ _ _
      | exact LeO.none _
      | refine LeO.ite ?_ ?_
      | refine LeO.bind ?_ (fun _ => ?_)
theorem spec_l01Take_num.mono : ∀ a0 a1 a2 a3 k, LeO (spec_l01Take_num.f k a0 a1 a2 a3) (spec_l01Take_num.f (k + 1) a0 a1 a2 a3) := by
  intro a0 a1 a2 a3 k
  have ih0 := spec_l01Take_num.mono_l k
  unfold spec_l01Take_num.f
  repeat' first
      | (with_reducible exact ih0 _ _ _ _ _ _)
      | (with_reducible exact LeO.refl _)
      | (with_reducible exact LeO.none _)
      | (with_reducible refine LeO.ite ?_ ?_)
      | (with_reducible refine LeO.bind ?_ (fun _ => ?_))
      | exact ih0 _ _ _ _ _ _
      | exact LeO.none _
      | refine LeO.ite ?_ ?_
      | refine LeO.bind ?_ (fun _ => ?_)
set_option maxHeartbeats 8000000 in
set_option maxRecDepth 100000 in
theorem spec_l01Take_num.calls (k : Nat) (g : Nat) (s0_0 : List Int) (s0_1 : Int) (s0_2 : Bool) (a1 : Int) (r1 : Int) (r2 : Int) (r3 : Bool) (w0 w : World) (hI : IsS52 w0 w g s0_0 s0_1 s0_2) (hB : Below w0.heap.size w0 w) (h : spec_l01Take_num.f k s0_0 s0_1 s0_2 a1 = some (r1, r2, r3)) :
    Calls Try.prog 40 #[.pointer (some ⟨g, 0, none⟩), .int .i64 a1] w fun e w' => e = .returned (.int .i64 r1) ∧ IsS52 w0 w' g s0_0 r2 r3 ∧ Below w0.heap.size w0 w' ∧ KeepBut w w' g none := by
  have HI0 := Aside0.mk hI
  have HK := Aside0.mk (KeepBut.refl w g none)
  have HL := Aside0.mk hB.size
  clear hI
  have HW0 := Aside0.mk hB.size
  have HB := Aside0.mk hB
  clear hB
  have H : (spec_l01Take_num.l0 k a1 0 0 s0_0 s0_1 s0_2) = some (r1, r2, r3) := h
  clear h
  have H' := Aside0.mk H
  clear H
  go_enter Try.func40, Try.ntmps40
  go_wp2
  go_loopg [5, 6] k (fun kq v5 v6 w' => ∃ (x5_1 : Int) (x6_1 : Int) (x1001_1 : Int) (x1002_1 : Bool), v5 = .int .i64 x5_1 ∧ v6 = .int .i64 x6_1 ∧ Aside0 (spec_l01Take_num.l0 kq a1 x5_1 x6_1 s0_0 x1001_1 x1002_1 = some (r1, r2, r3)) ∧ Aside0 (kq ≤ k) ∧ Aside0 (IsS52 w0 w' g s0_0 x1001_1 x1002_1) ∧ Aside0 (KeepBut w w' g none) ∧ Aside0 (Below w0.heap.size w0 w'))
  case atStart => exact ⟨(0), (0), (s0_1), (s0_2), (by first | rfl | (simp; done) | (simp [*]; done)), (by first | rfl | (simp; done) | (simp [*]; done)), H', ⟨Nat.le_refl _⟩, ⟨by repeat (first | (with_reducible first | exact HI0.out | apply IsS52.alloc | apply IsS52.drewN | apply IsS52.drew | apply IsS52.set_1 | apply IsS52.set_2) | exact HI0.out)⟩, ⟨by repeat (first | (with_reducible first | exact HK.out | apply KeepBut.set_ | apply keep_drewN | apply keep_drew | apply keep_alloc) | exact HK.out)⟩, ⟨by repeat (first | (with_reducible first | exact HB.out | apply below_alloc | apply pw_below_drewN | apply below_drew1 | refine below_set ?_ (IsS52.ge HI0.out)) | exact HB.out)⟩⟩
  case round =>
    clear H'
    try clear p2
    obtain ⟨x5_1, x6_1, x1001_1, x1002_1, rfl, rfl, HA, HK1, HI0, HK, HB⟩ := hrel
    cases gk with
    | zero => exact absurd HA.out (by simp [spec_l01Take_num.l0])
    | succ k1 =>
      have H := HA.out
      clear HA
      simp only [spec_l01Take_num.l0] at H
      by_cases c3 : x6_1 < a1
      · rw [if_pos c3] at H
        have c3b0 : decide (x6_1 < a1) = true := decide_eq_true c3
        clear c3
        replace H := Option.bind_eq_some_iff.mp H
        obtain ⟨⟨t134, t135, t136⟩, A40, H⟩ := H
        replace H : (spec_l01Take_num.l0 k1 a1 (wrap64 ((wrap64 (2 * x5_1)) + t134)) (wrap64 (x6_1 + 1)) s0_0 t135 t136) = some (r1, r2, r3) := H
        have A4 := Aside0.mk A40
        clear A40
        have H' := Aside0.mk H
        clear H
        go_wp2_with (first | ((with_reducible refine gate_callee (f := 54) rfl ?_); refine goesL_ (some 14) rfl rfl Try.func54 (by kernel_rfl) rfl #[.pointer (some ⟨g, 0, none⟩)] rfl (by (try simp only [List.map_toArray, List.map_cons, List.map_nil]); first | done | rfl | (simp only [List.length_drop, List.length_take]; rfl)) ?_; (with_reducible refine (spec_l01Take_bit.calls g s0_0 x1001_1 x1002_1 t134 t135 t136 w0 _ ?side1 ?side2 A4.out).mono ?_); (case side1 => repeat (first | (with_reducible first | exact HI0.out | apply IsS52.alloc | apply IsS52.drewN | apply IsS52.drew | apply IsS52.set_1 | apply IsS52.set_2) | exact HI0.out)); (case side2 => repeat (first | (with_reducible first | exact HB.out | apply below_alloc | apply pw_below_drewN | apply below_drew1 | refine below_set ?_ (IsS52.ge HI0.out)) | exact HB.out)); rintro e w5 ⟨rfl, hi, hb, hk⟩; refine ⟨_, rfl, ?_⟩; have n0_ := Aside0.mk (KeepBut.trans (by repeat (first | (with_reducible first | exact HK.out | apply KeepBut.set_ | apply keep_drewN | apply keep_drew | apply keep_alloc) | exact HK.out)) hk (.inl rfl)); have n1_ := Aside0.mk (hb); have n2_ := Aside0.mk (hi); clear HK; clear HB; clear HI0; have HK := n0_; have HB := n1_; have HI0 := n2_; clear n0_ n1_ n2_; (try clear hb); (try clear hb2); (try clear hk); (try clear hi)))
        go_roundg k1
        case measure => have := HK1.out; omega
        case rel => exact ⟨(wrap64 ((wrap64 (2 * x5_1)) + t134)), (wrap64 (x6_1 + 1)), (t135), (t136), (by first | rfl | (simp; done) | (simp [*]; done)), (by first | rfl | (simp; done) | (simp [*]; done)), H', ⟨by have := HK1.out; omega⟩, ⟨by repeat (first | (with_reducible first | exact HI0.out | apply IsS52.alloc | apply IsS52.drewN | apply IsS52.drew | apply IsS52.set_1 | apply IsS52.set_2) | exact HI0.out)⟩, ⟨by repeat (first | (with_reducible first | exact HK.out | apply KeepBut.set_ | apply keep_drewN | apply keep_drew | apply keep_alloc) | exact HK.out)⟩, ⟨by repeat (first | (with_reducible first | exact HB.out | apply below_alloc | apply pw_below_drewN | apply below_drew1 | refine below_set ?_ (IsS52.ge HI0.out)) | exact HB.out)⟩⟩
      · rw [if_neg c3] at H
        have c3b0 : decide (x6_1 < a1) = false := decide_eq_false c3
        clear c3
        simp only [Option.some.injEq, Prod.mk.injEq] at H
        obtain ⟨rfl, rfl, rfl⟩ := H
        go_wp2
        go_ret
        exact ⟨by first | rfl | (simp [errW_none, errW_some] <;> rfl) | (simp [*, errW_none, errW_some] <;> rfl), by repeat (first | (with_reducible first | exact HI0.out | apply IsS52.alloc | apply IsS52.drewN | apply IsS52.drew | apply IsS52.set_1 | apply IsS52.set_2) | exact HI0.out), by repeat (first | (with_reducible first | exact HB.out | apply below_alloc | apply pw_below_drewN | apply below_drew1 | refine below_set ?_ (IsS52.ge HI0.out)) | exact HB.out), by repeat (first | (with_reducible first | exact HK.out | apply KeepBut.set_ | apply keep_drewN | apply keep_drew | apply keep_alloc) | exact HK.out)⟩

/-- so many bits, told one by one; bad where there are no more -/
theorem spec_l01Take_num.ev (b : List Int) (hb : ∀ x ∈ b, 0 ≤ x ∧ x ≤ 255) (hl : b.length ≤ 1048576) (p n : Nat) (hn : n ≤ 16) (hp : p ≤ 8 * b.length) :
    (p + n ≤ 8 * b.length → Ev (fun k => spec_l01Take_num.f k b p false n) (valB b p n, ((p + n : Nat) : Int), false)) ∧
    (¬ p + n ≤ 8 * b.length → ∃ x q, Ev (fun k => spec_l01Take_num.f k b p false n) (x, q, true)) := by
  have bad : ∀ d i : Nat, ∀ x : Int, n - i = d → i ≤ n → ∃ x' q, Ev (fun k => spec_l01Take_num.l0 k n x (i : Int) b ((8 * b.length : Nat) : Int) true) (x', q, true) := by
    intro d
    induction d with
    | zero =>
      intro i x hd hi
      exact ⟨x, _, Ev.step (fun _ => by rw [spec_l01Take_num.l0]) (Ev.ng (by omega) (Ev.now _))⟩
    | succ d ih =>
      intro i x hd hi
      obtain ⟨x', q, h⟩ := ih (i + 1) (wrap64 (wrap64 (2 * x) + 0)) (by omega) (by omega)
      refine ⟨x', q, Ev.step (fun _ => by rw [spec_l01Take_num.l0]) (Ev.ip (by omega) (Ev.bind (Ev.c (spec_l01Take_bit.val b hb hl _ true)) ?_))⟩
      rw [if_neg (by omega), wrap_succ i (by omega)]
      exact h
  have good : ∀ d i : Nat, n - i = d → i ≤ n → p + i ≤ 8 * b.length →
      (p + n ≤ 8 * b.length → Ev (fun k => spec_l01Take_num.l0 k n (valB b p i) (i : Int) b ((p + i : Nat) : Int) false) (valB b p n, ((p + n : Nat) : Int), false)) ∧
      (¬ p + n ≤ 8 * b.length → ∃ x q, Ev (fun k => spec_l01Take_num.l0 k n (valB b p i) (i : Int) b ((p + i : Nat) : Int) false) (x, q, true)) := by
    intro d
    induction d with
    | zero =>
      intro i hd hi hpi
      obtain rfl : i = n := by omega
      exact ⟨fun _ => Ev.step (fun _ => by rw [spec_l01Take_num.l0]) (Ev.ng (by omega) (Ev.now _)), fun h => absurd hpi h⟩
    | succ d ih =>
      intro i hd hi hpi
      have hv := valB_range b p i
      have hpw : (2 : Int) ^ i ≤ 65536 := by
        have := Nat.pow_le_pow_right (n := 2) (by decide) (show i ≤ 16 by omega)
        exact pow_cast _ 65536 this
      have hb01 := bitAt_01 b (p + i)
      by_cases hq : p + i < 8 * b.length
      · have hstep := ih (i + 1) (by omega) (by omega) (by omega)
        have e : ∀ r, Ev (fun k => spec_l01Take_num.l0 k n (valB b p (i + 1)) ((i + 1 : Nat) : Int) b ((p + (i + 1) : Nat) : Int) false) r → Ev (fun k => spec_l01Take_num.l0 k n (valB b p i) (i : Int) b ((p + i : Nat) : Int) false) r := by
          intro r hr
          refine Ev.step (fun _ => by rw [spec_l01Take_num.l0]) (Ev.ip (by omega) (Ev.bind (Ev.c (spec_l01Take_bit.val b hb hl _ false)) ?_))
          rw [if_pos hq, wrap_succ i (by omega), wrap_in (2 * valB b p i) (by omega) (by omega), wrap_in (2 * valB b p i + _) (by simp only; omega) (by simp only; omega)]
          exact hr
        exact ⟨fun h => e _ (hstep.1 h), fun h => by obtain ⟨x, q, h2⟩ := hstep.2 h; exact ⟨x, q, e _ h2⟩⟩
      · refine ⟨fun h => by omega, fun _ => ?_⟩
        obtain ⟨x', q, h⟩ := bad d (i + 1) (wrap64 (wrap64 (2 * valB b p i) + 0)) (by omega) (by omega)
        refine ⟨x', q, Ev.step (fun _ => by rw [spec_l01Take_num.l0]) (Ev.ip (by omega) (Ev.bind (Ev.c (spec_l01Take_bit.val b hb hl _ false)) ?_))⟩
        rw [if_neg hq, wrap_succ i (by omega)]
        rw [show p + i = 8 * b.length by omega]
        exact h
  unfold spec_l01Take_num.f
  exact good n 0 (by omega) (by omega) (by omega)

end Go.Proofs.Ytnknolppoeacbaa.G
