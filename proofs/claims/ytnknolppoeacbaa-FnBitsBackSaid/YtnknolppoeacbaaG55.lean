-- Written by gp.py (a program of this session's, over the kit's print). Not trusted: Lean checks it.
import Derived.Test.YtnknolppoeacbaaG0h
import Derived.Test.YtnknolppoeacbaaG47
import Derived.Test.YtnknolppoeacbaaG56
import Derived.Test.YtnknolppoeacbaaGLib
namespace Go.Proofs.Ytnknolppoeacbaa.G
open Go.RowKit Go.Proofs.YtnknolppoeacbaaW.PrintWords Go.Proofs.YtnknolppoeacbaaW.PrintLast Go.Proofs.YtnknolppoeacbaaW.PrintMore
attribute [local go_sem] max2_int min2_int max_two min_two max_three min_three max_four min_four   -- for this text's walks alone
set_option linter.unusedVariables false
set_option linter.unusedSimpArgs false

/-! ### spec_l01Cur_size: function 55 -/
def spec_l01Cur_size.f (s0_0 : List Int) (s0_1 : Int) (s0_2 : Int) (a1 : Int) : Option (Int × Int × Int) := if (wrap64 (1 + (wrap64 ((s0_0.length : Int) / 10)))) > a1 then ((spec_l01Cur_pick.f s0_0 s0_1 s0_2 (wrap64 (a1 + 1))).bind fun bt195 => (some (bt195.1, bt195.2.1, bt195.2.2))) else ((spec_l01Cur_pick.f s0_0 s0_1 s0_2 (wrap64 ((wrap64 (1 + (wrap64 ((s0_0.length : Int) / 10)))) + 1))).bind fun bt198 => (some (bt198.1, bt198.2.1, bt198.2.2)))
set_option maxHeartbeats 8000000 in
set_option maxRecDepth 100000 in
theorem spec_l01Cur_size.calls (g : Nat) (s0_0 : List Int) (s0_1 : Int) (s0_2 : Int) (a1 : Int) (r1 : Int) (r2 : Int) (r3 : Int) (w0 w : World) (hI : IsS72 w0 w g s0_0 s0_1 s0_2) (hB : Below w0.heap.size w0 w) (h : spec_l01Cur_size.f s0_0 s0_1 s0_2 a1 = some (r1, r2, r3)) :
    Calls Try.prog 55 #[.pointer (some ⟨g, 0, none⟩), .int .i64 a1] w fun e w' => e = .returned (.int .i64 r1) ∧ IsS72 w0 w' g s0_0 r2 r3 ∧ Below w0.heap.size w0 w' ∧ KeepBut w w' g none := by
  have HI0 := Aside0.mk hI
  have HK := Aside0.mk (KeepBut.refl w g none)
  have HL := Aside0.mk hB.size
  clear hI
  have HW0 := Aside0.mk hB.size
  have HB := Aside0.mk hB
  clear hB
  have H : (if (wrap64 (1 + (wrap64 ((s0_0.length : Int) / 10)))) > a1 then ((spec_l01Cur_pick.f s0_0 s0_1 s0_2 (wrap64 (a1 + 1))).bind fun bt195 => (some (bt195.1, bt195.2.1, bt195.2.2))) else ((spec_l01Cur_pick.f s0_0 s0_1 s0_2 (wrap64 ((wrap64 (1 + (wrap64 ((s0_0.length : Int) / 10)))) + 1))).bind fun bt198 => (some (bt198.1, bt198.2.1, bt198.2.2)))) = some (r1, r2, r3) := h
  clear h
  by_cases c3 : (wrap64 (1 + (wrap64 ((s0_0.length : Int) / 10)))) > a1
  · rw [if_pos c3] at H
    have c3b0 : decide (a1 < (wrap64 (1 + (wrap64 ((s0_0.length : Int) / 10))))) = true := decide_eq_true c3
    clear c3
    replace H := Option.bind_eq_some_iff.mp H
    obtain ⟨⟨t195, t196, t197⟩, A40, H⟩ := H
    replace H : (some (t195, t196, t197)) = some (r1, r2, r3) := H
    have A4 := Aside0.mk A40
    clear A40
    simp only [Option.some.injEq, Prod.mk.injEq] at H
    obtain ⟨rfl, rfl, rfl⟩ := H
    obtain ⟨ASz5_0, cSz5_0, HGz5, hgz5, HSz5_0⟩ := HI0.out
    have hcz5_0 := cellS72_0 HGz5
    have hcz5_1 := cellS72_1 HGz5
    have hcz5_2 := cellS72_2 HGz5
    have hfz5_1 := blk_frozen HGz5 1
    have hfz5_2 := blk_frozen HGz5 2
    clear HGz5 hgz5
    go_enter Try.func55, Try.ntmps55
    go_wp2_with (first | ((with_reducible refine gate_callee (f := 56) rfl ?_); refine goesL_ (some 20) rfl rfl Try.func56 (by kernel_rfl) rfl #[.pointer (some ⟨g, 0, none⟩), .int .i64 (wrap64 (a1 + 1))] rfl (by (try simp only [List.map_toArray, List.map_cons, List.map_nil]); first | done | rfl | (simp only [List.length_drop, List.length_take]; rfl)) ?_; (with_reducible refine (spec_l01Cur_pick.calls g s0_0 s0_1 s0_2 (wrap64 (a1 + 1)) t195 t196 t197 w0 _ ?side1 ?side2 A4.out).mono ?_); (case side1 => repeat (first | (with_reducible first | exact HI0.out | apply IsS72.alloc | apply IsS72.drewN | apply IsS72.drew | apply IsS72.set_1 | apply IsS72.set_2) | exact HI0.out)); (case side2 => repeat (first | (with_reducible first | exact HB.out | apply below_alloc | apply pw_below_drewN | apply below_drew1 | refine below_set ?_ (IsS72.ge HI0.out)) | exact HB.out)); rintro e w6 ⟨rfl, hi, hb, hk⟩; refine ⟨_, rfl, ?_⟩; have n0_ := Aside0.mk (KeepBut.trans (by repeat (first | (with_reducible first | exact HK.out | apply KeepBut.set_ | apply keep_drewN | apply keep_drew | apply keep_alloc) | exact HK.out)) hk (.inl rfl)); have n1_ := Aside0.mk (hb); have n2_ := Aside0.mk (hi); clear HK; clear HB; clear HI0; have HK := n0_; have HB := n1_; have HI0 := n2_; clear n0_ n1_ n2_; (try clear hb); (try clear hb2); (try clear hk); (try clear hi)))
    go_ret
    exact ⟨by first | rfl | (simp [errW_none, errW_some] <;> rfl) | (simp [*, errW_none, errW_some] <;> rfl), by repeat (first | (with_reducible first | exact HI0.out | apply IsS72.alloc | apply IsS72.drewN | apply IsS72.drew | apply IsS72.set_1 | apply IsS72.set_2) | exact HI0.out), by repeat (first | (with_reducible first | exact HB.out | apply below_alloc | apply pw_below_drewN | apply below_drew1 | refine below_set ?_ (IsS72.ge HI0.out)) | exact HB.out), by repeat (first | (with_reducible first | exact HK.out | apply KeepBut.set_ | apply keep_drewN | apply keep_drew | apply keep_alloc) | exact HK.out)⟩
  · rw [if_neg c3] at H
    have c3b0 : decide (a1 < (wrap64 (1 + (wrap64 ((s0_0.length : Int) / 10))))) = false := decide_eq_false c3
    clear c3
    replace H := Option.bind_eq_some_iff.mp H
    obtain ⟨⟨t198, t199, t200⟩, A70, H⟩ := H
    replace H : (some (t198, t199, t200)) = some (r1, r2, r3) := H
    have A7 := Aside0.mk A70
    clear A70
    simp only [Option.some.injEq, Prod.mk.injEq] at H
    obtain ⟨rfl, rfl, rfl⟩ := H
    obtain ⟨ASz8_0, cSz8_0, HGz8, hgz8, HSz8_0⟩ := HI0.out
    have hcz8_0 := cellS72_0 HGz8
    have hcz8_1 := cellS72_1 HGz8
    have hcz8_2 := cellS72_2 HGz8
    have hfz8_1 := blk_frozen HGz8 1
    have hfz8_2 := blk_frozen HGz8 2
    clear HGz8 hgz8
    go_enter Try.func55, Try.ntmps55
    go_wp2_with (first | ((with_reducible refine gate_callee (f := 56) rfl ?_); refine goesL_ (some 20) rfl rfl Try.func56 (by kernel_rfl) rfl #[.pointer (some ⟨g, 0, none⟩), .int .i64 (wrap64 ((wrap64 (1 + (wrap64 ((s0_0.length : Int) / 10)))) + 1))] rfl (by (try simp only [List.map_toArray, List.map_cons, List.map_nil]); first | done | rfl | (simp only [List.length_drop, List.length_take]; rfl)) ?_; (with_reducible refine (spec_l01Cur_pick.calls g s0_0 s0_1 s0_2 (wrap64 ((wrap64 (1 + (wrap64 ((s0_0.length : Int) / 10)))) + 1)) t198 t199 t200 w0 _ ?side1 ?side2 A7.out).mono ?_); (case side1 => repeat (first | (with_reducible first | exact HI0.out | apply IsS72.alloc | apply IsS72.drewN | apply IsS72.drew | apply IsS72.set_1 | apply IsS72.set_2) | exact HI0.out)); (case side2 => repeat (first | (with_reducible first | exact HB.out | apply below_alloc | apply pw_below_drewN | apply below_drew1 | refine below_set ?_ (IsS72.ge HI0.out)) | exact HB.out)); rintro e w9 ⟨rfl, hi, hb, hk⟩; refine ⟨_, rfl, ?_⟩; have n0_ := Aside0.mk (KeepBut.trans (by repeat (first | (with_reducible first | exact HK.out | apply KeepBut.set_ | apply keep_drewN | apply keep_drew | apply keep_alloc) | exact HK.out)) hk (.inl rfl)); have n1_ := Aside0.mk (hb); have n2_ := Aside0.mk (hi); clear HK; clear HB; clear HI0; have HK := n0_; have HB := n1_; have HI0 := n2_; clear n0_ n1_ n2_; (try clear hb); (try clear hb2); (try clear hk); (try clear hi)))
    go_ret
    exact ⟨by first | rfl | (simp [errW_none, errW_some] <;> rfl) | (simp [*, errW_none, errW_some] <;> rfl), by repeat (first | (with_reducible first | exact HI0.out | apply IsS72.alloc | apply IsS72.drewN | apply IsS72.drew | apply IsS72.set_1 | apply IsS72.set_2) | exact HI0.out), by repeat (first | (with_reducible first | exact HB.out | apply below_alloc | apply pw_below_drewN | apply below_drew1 | refine below_set ?_ (IsS72.ge HI0.out)) | exact HB.out), by repeat (first | (with_reducible first | exact HK.out | apply KeepBut.set_ | apply keep_drewN | apply keep_drew | apply keep_alloc) | exact HK.out)⟩

theorem spec_l01Cur_size.val (c : List Int) (hc : ∀ x ∈ c, 0 ≤ x ∧ x ≤ 255) (hl : c.length ≤ 1048576) (a s n : Int) (ha : 0 ≤ a) (ha2 : a ≤ 1000000000000) (hs0 : 0 ≤ s) (hs1 : s ≤ 65536) (hn : 0 ≤ n) (hn2 : n ≤ 1000000000) :
    ∃ x a' s', spec_l01Cur_size.f c a s n = some (x, a', s') ∧ 0 ≤ x ∧ x ≤ n ∧ a ≤ a' ∧ a' ≤ a + 2 ∧ 0 ≤ s' ∧ s' ≤ 65536 := by
  unfold spec_l01Cur_size.f
  rw [wrap_in ((c.length : Int) / 10) (by omega) (by omega), wrap_in (1 + (c.length : Int) / 10) (by omega) (by omega), wrap_in (n + 1) (by omega) (by omega), wrap_in (1 + (c.length : Int) / 10 + 1) (by omega) (by omega)]
  by_cases h : 1 + (c.length : Int) / 10 > n
  · obtain ⟨x, a', s', e, h1, h2, h3, h4, h5, h6⟩ := spec_l01Cur_pick.val c hc hl a s (n + 1) ha ha2 hs0 hs1
    rw [if_pos h, e]
    exact ⟨x, a', s', rfl, h1, by omega, h3, h4, h5, h6⟩
  · obtain ⟨x, a', s', e, h1, h2, h3, h4, h5, h6⟩ := spec_l01Cur_pick.val c hc hl a s (1 + (c.length : Int) / 10 + 1) ha ha2 hs0 hs1
    rw [if_neg h, e]
    exact ⟨x, a', s', rfl, h1, by omega, h3, h4, h5, h6⟩

end Go.Proofs.Ytnknolppoeacbaa.G
