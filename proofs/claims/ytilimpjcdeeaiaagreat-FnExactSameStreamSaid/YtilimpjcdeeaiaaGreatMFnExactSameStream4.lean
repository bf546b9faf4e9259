import Derived.BigRegion
import Derived.Test.YtilimpjcdeeaiaaGreatMFnExactSameStream3
set_option linter.unusedVariables false
set_option linter.unusedSimpArgs false
namespace Go.Proofs.YtilimpjcdeeaiaaGreat.G
open Go.RowKit Go.Proofs.YtilimpjcdeeaiaaGreatW.PrintWords Go.Proofs.YtilimpjcdeeaiaaGreatW.PrintLast Go.Proofs.YtilimpjcdeeaiaaGreatW.PrintMore
attribute [local go_sem] max2_int min2_int max_two min_two max_three min_three max_four min_four   -- for this text's walks alone
def impl_Frame_areComps.l0 : Nat → List Int → List Int → Int → Int → Int → Int → Int → Int → List (S53) → Option (Bool)
 | 0, _, _, _, _, _, _, _, _, _ => none
 | k + 1, x1, x7, x8, x9, x370000, x370001, x370002, x370003, x370004 => if x9 < x8 then (if 0 ≤ x9 then (if x9 < (x7.length : Int) then ((impl_Frame_has.f x370000 x370001 x370002 x370003 x370004 (rd x7 x9)).bind fun t371 => (if t371 = true then (if x9 > 0 then (if 0 ≤ (wrap64 (x9 - 1)) then (if (wrap64 (x9 - 1)) < (x1.length : Int) then (if (rd x1 (wrap64 (x9 - 1))) ≥ (rd x7 x9) then (some false) else (impl_Frame_areComps.l0 k x1 x7 x8 (wrap64 (x9 + 1)) x370000 x370001 x370002 x370003 x370004)) else (none)) else (none)) else (impl_Frame_areComps.l0 k x1 x7 x8 (wrap64 (x9 + 1)) x370000 x370001 x370002 x370003 x370004)) else (some false))) else (none)) else (none)) else (some (decide ((x1.length : Int) > 0)))
def impl_Frame_areComps.f (k : Nat) (a0_0 : Int) (a0_1 : Int) (a0_2 : Int) (a0_3 : Int) (l0_4 : List (S53)) (l1 : List Int) : Option (Bool) := impl_Frame_areComps.l0 k l1 l1 (l1.length : Int) 0 a0_0 a0_1 a0_2 a0_3 l0_4
set_option maxHeartbeats 8000000 in
set_option maxRecDepth 100000 in
theorem impl_Frame_areComps.calls (k : Nat) (a0_0 : Int) (a0_1 : Int) (a0_2 : Int) (a0_3 : Int) (A0_4 : Option Addr) (c0_4 : Nat) (l0_4 : List (S53)) (A1 : Option Addr) (c1 : Nat) (l1 : List Int) (r : Bool) (w : World) (hr0_4 : Kd.C k53 w A0_4 l0_4.length l0_4) (hc0_4 : l0_4.length ≤ c0_4) (hr1 : Kd.C (Kd.int .i64) w A1 l1.length l1) (hc1 : l1.length ≤ c1) (h : impl_Frame_areComps.f k a0_0 a0_1 a0_2 a0_3 l0_4 l1 = some r) :
  Calls Tryz.prog 96 #[.agg #[.int .i64 a0_0, .int .i64 a0_1, .int .i64 a0_2, .int .i64 a0_3, .slice A0_4 l0_4.length c0_4], .slice A1 l1.length c1] w fun e w' => e = .returned (.bool r) ∧ Below w.heap.size w w' := by
 have hu37 := Tryz.underlying37
 have HR0_4 := zA hr0_4
 have HC0_4 := zA hc0_4
 clear hr0_4 hc0_4
 have HR1 := zA hr1
 have HC1 := zA hc1
 clear hr1 hc1
 have HB := zA (Below.refl w.heap.size w)
 have H : (impl_Frame_areComps.l0 k l1 l1 (l1.length : Int) 0 a0_0 a0_1 a0_2 a0_3 l0_4) = some r := h
 clear h
 have H' := zA H
 clear H
 go_enter Tryz.func96, Tryz.ntmps96
 go_wp2_with (first | ((with_reducible refine gate_dst (N := 2) rfl ?_); refine box_event ?hg (N := 2) ?hd (cs := #[.int .i64 a0_0, .int .i64 a0_1, .int .i64 a0_2, .int .i64 a0_3, .slice A0_4 l0_4.length c0_4]) (t := 37) ?hr ?_; (case hd => rfl); (case hg => rfl); (case hr => first | (go_simp; done) | (go_simp; rfl)); intro gb369 hg w3 hbox hb; have BK369 := zA (hbox); have GE369 := nxG HB hg; replace HB := nxH hb HB; clear hb hbox hg))
 go_loopg [9] k (fun kq v9 w' => ∃ (x9_1 : Int), v9 = .int .i64 x9_1 ∧ Aside0 (impl_Frame_areComps.l0 kq l1 l1 (l1.length : Int) x9_1 a0_0 a0_1 a0_2 a0_3 l0_4 = some r) ∧ Aside0 (kq ≤ k) ∧ Aside0 (w'.heap[gb369]? = some (.cells #[.int .i64 a0_0, .int .i64 a0_1, .int .i64 a0_2, .int .i64 a0_3, (.slice A0_4 l0_4.length c0_4)] 37 (0, 0))) ∧ Aside0 (Below w.heap.size w w'))
 case atStart => exact ⟨(0), rfl, H', ⟨Nat.le_refl _⟩, ⟨BK369.out⟩, ⟨nxD HB⟩⟩
 case round =>
  clear H'
  obtain ⟨x9_1, rfl, HA, HK1, BK369, HB⟩ := hrel
  cases gk with
  | zero => exact absurd HA.out (by simp [impl_Frame_areComps.l0])
  | succ k1 =>
   have H := HA.out
   clear HA
   simp only [impl_Frame_areComps.l0] at H
   by_cases c4 : x9_1 < (l1.length : Int)
   rotate_left
   ·rw [if_neg c4] at H
    have c4b0 := decide_eq_false c4
    clear c4
    obtain rfl := Option.some.inj H
    go_wp2
    go_ret
    exact ⟨rfl, nxD HB⟩
   rw [if_pos c4] at H
   have c4b0 := zT c4
   clear c4
   by_cases c5 : 0 ≤ x9_1
   rotate_left
   ·rw [if_neg c5] at H
    exact absurd H (by simp)
   rw [if_pos c5] at H
   have c5b0 := zT c5
   clear c5
   by_cases c6 : x9_1 < (l1.length : Int)
   rotate_left
   ·rw [if_neg c6] at H
    exact absurd H (by simp)
   rw [if_pos c6] at H
   have c6b0 := zT c6
   clear c6
   replace H := Option.bind_eq_some_iff.mp H
   obtain ⟨t371, A70, H⟩ := H
   try dsimp only at H
   have A7 := zA A70
   clear A70
   by_cases c8 : t371 = true
   rotate_left
   ·replace c8 := Bool.eq_false_iff.mpr c8
    subst c8
    rw [if_neg (show ¬ (false = true) by decide)] at H
    obtain rfl := Option.some.inj H
    have p370 : 0 ≤ (x9_1 : Int) := zI (by first | (with_reducible assumption) | assumption)
    have q370 : x9_1 < (l1.length : Int) := zI (by first | (with_reducible assumption) | assumption)
    obtain ⟨ad370, e370, hx370_0⟩ := Kd.at_int HR1.out x9_1 p370 q370
    cases e370
    replace hx370_0 := (HB.out.cell (World.block_lt_of_cell? w _ hx370_0)).trans hx370_0
    replace p370 := eq_true p370
    replace q370 := eq_true q370
    obtain ⟨hcz19_0, hcz19_1, hcz19_2, hcz19_3, hcz19_4⟩ := cz5 BK369
    go_wp2_with (first | ((with_reducible refine gate_callee (f := 99) rfl ?_); refine goesL_ (some 16) rfl rfl Tryz.func99 (by kernel_rfl) rfl #[.agg #[.int .i64 a0_0, .int .i64 a0_1, .int .i64 a0_2, .int .i64 a0_3, .slice A0_4 l0_4.length c0_4], .int .i64 (rd l1 x9_1)] rfl (by (try simp only [zU, zV, zW]); first | done | rfl | (simp only [zR, zQ]; rfl)) ?_; (with_reducible refine (impl_Frame_has.calls a0_0 a0_1 a0_2 a0_3 _ _ l0_4 (rd l1 x9_1) false _ ?side1 ?side2 A7.out).mono ?_); (case side1 => exact nxC HR0_4 HB); (case side2 => exact HC0_4.out); rintro e w20 ⟨rfl, hb⟩; refine ⟨_, rfl, ?_⟩; replace BK369 := nxB hb BK369; replace HB := nxH hb HB; (try clear hb); (try clear hb2); (try clear hk); (try clear hi)))
    go_ret
    exact ⟨rfl, nxD HB⟩
   subst c8
   rw [if_pos rfl] at H
   by_cases c9 : x9_1 > 0
   rotate_left
   ·rw [if_neg c9] at H
    have c9b0 := decide_eq_false c9
    clear c9
    have H' := zA H
    clear H
    have p370 : 0 ≤ (x9_1 : Int) := zI (by first | (with_reducible assumption) | assumption)
    have q370 : x9_1 < (l1.length : Int) := zI (by first | (with_reducible assumption) | assumption)
    obtain ⟨ad370, e370, hx370_0⟩ := Kd.at_int HR1.out x9_1 p370 q370
    cases e370
    replace hx370_0 := (HB.out.cell (World.block_lt_of_cell? w _ hx370_0)).trans hx370_0
    replace p370 := eq_true p370
    replace q370 := eq_true q370
    obtain ⟨hcz17_0, hcz17_1, hcz17_2, hcz17_3, hcz17_4⟩ := cz5 BK369
    go_wp2_with (first | ((with_reducible refine gate_callee (f := 99) rfl ?_); refine goesL_ (some 16) rfl rfl Tryz.func99 (by kernel_rfl) rfl #[.agg #[.int .i64 a0_0, .int .i64 a0_1, .int .i64 a0_2, .int .i64 a0_3, .slice A0_4 l0_4.length c0_4], .int .i64 (rd l1 x9_1)] rfl (by (try simp only [zU, zV, zW]); first | done | rfl | (simp only [zR, zQ]; rfl)) ?_; (with_reducible refine (impl_Frame_has.calls a0_0 a0_1 a0_2 a0_3 _ _ l0_4 (rd l1 x9_1) true _ ?side1 ?side2 A7.out).mono ?_); (case side1 => exact nxC HR0_4 HB); (case side2 => exact HC0_4.out); rintro e w18 ⟨rfl, hb⟩; refine ⟨_, rfl, ?_⟩; replace BK369 := nxB hb BK369; replace HB := nxH hb HB; (try clear hb); (try clear hb2); (try clear hk); (try clear hi)))
    go_roundg k1
    case measure => have := HK1.out; omega
    case rel => exact ⟨(wrap64 (x9_1 + 1)), rfl, H', ⟨by have := HK1.out; omega⟩, ⟨BK369.out⟩, ⟨nxD HB⟩⟩
   rw [if_pos c9] at H
   have c9b0 := zT c9
   clear c9
   obtain ⟨ji10, hji10⟩ : ∃ j_ : Int, (wrap64 (x9_1 - 1)) = j_ := ⟨_, rfl⟩
   replace H : (if 0 ≤ (ji10) then (if (ji10) < (l1.length : Int) then (if (rd l1 (ji10)) ≥ (rd l1 x9_1) then (some false) else (impl_Frame_areComps.l0 k1 l1 l1 (l1.length : Int) (wrap64 (x9_1 + 1)) a0_0 a0_1 a0_2 a0_3 l0_4)) else (none)) else (none)) = some r := by first | (rw [hji10] at H; exact H) | (simp only [hji10] at H ⊢; exact H)
   (try rw [hji10] at A7)
   have hji10w : (IntKind.i64.wrap (x9_1 - 1)) = ji10 := (i64_w _).trans hji10
   by_cases c11 : 0 ≤ (ji10)
   rotate_left
   ·rw [if_neg c11] at H
    exact absurd H (by simp)
   rw [if_pos c11] at H
   have c11b0 := zT c11
   clear c11
   by_cases c12 : (ji10) < (l1.length : Int)
   rotate_left
   ·rw [if_neg c12] at H
    exact absurd H (by simp)
   rw [if_pos c12] at H
   have c12b0 := zT c12
   clear c12
   have HF13 := zA H
   clear H
   have p370 : 0 ≤ (x9_1 : Int) := zI (by first | (with_reducible assumption) | assumption)
   have q370 : x9_1 < (l1.length : Int) := zI (by first | (with_reducible assumption) | assumption)
   obtain ⟨ad370, e370, hx370_0⟩ := Kd.at_int HR1.out x9_1 p370 q370
   cases e370
   replace hx370_0 := (HB.out.cell (World.block_lt_of_cell? w _ hx370_0)).trans hx370_0
   replace p370 := eq_true p370
   replace q370 := eq_true q370
   obtain ⟨hcz14_0, hcz14_1, hcz14_2, hcz14_3, hcz14_4⟩ := cz5 BK369
   go_upto_if 30 with (first | ((with_reducible refine gate_callee (f := 99) rfl ?_); refine goesL_ (some 16) rfl rfl Tryz.func99 (by kernel_rfl) rfl #[.agg #[.int .i64 a0_0, .int .i64 a0_1, .int .i64 a0_2, .int .i64 a0_3, .slice A0_4 l0_4.length c0_4], .int .i64 (rd l1 x9_1)] rfl (by (try simp only [zU, zV, zW]); first | done | rfl | (simp only [zR, zQ]; rfl)) ?_; (with_reducible refine (impl_Frame_has.calls a0_0 a0_1 a0_2 a0_3 _ _ l0_4 (rd l1 x9_1) true _ ?side1 ?side2 A7.out).mono ?_); (case side1 => exact nxC HR0_4 HB); (case side2 => exact HC0_4.out); rintro e w15 ⟨rfl, hb⟩; refine ⟨_, rfl, ?_⟩; replace BK369 := nxB hb BK369; replace HB := nxH hb HB; (try clear hb); (try clear hb2); (try clear hk); (try clear hi); have p372 : 0 ≤ ((ji10) : Int) := zI (by first | (with_reducible assumption) | assumption); have q372 : (ji10) < (l1.length : Int) := zI (by first | (with_reducible assumption) | assumption); obtain ⟨ad372, e372, hx372_0⟩ := Kd.at_int HR1.out (ji10) p372 q372; obtain rfl : ad370 = ad372 := (by injection e372); replace hx372_0 := (HB.out.cell (World.block_lt_of_cell? w _ hx372_0)).trans hx372_0; replace p372 := eq_true p372; replace q372 := eq_true q372))
   have H := HF13.out
   clear HF13
   by_cases c16 : (rd l1 (ji10)) ≥ (rd l1 x9_1)
   rotate_left
   ·rw [if_neg c16] at H
    have c16b0 := decide_eq_false c16
    clear c16
    (first | rw [c16b0] | rw [c16b1] | (simp only [i64_w, i32_w]; first | rw [c16b0] | rw [c16b1]) | skip)
    have H' := zA H
    clear H
    go_wp2
    go_roundg k1
    case measure => have := HK1.out; omega
    case rel => exact ⟨(wrap64 (x9_1 + 1)), rfl, H', ⟨by have := HK1.out; omega⟩, ⟨BK369.out⟩, ⟨nxD HB⟩⟩
   rw [if_pos c16] at H
   have c16b0 := zT c16
   clear c16
   (first | rw [c16b0] | rw [c16b1] | (simp only [i64_w, i32_w]; first | rw [c16b0] | rw [c16b1]) | skip)
   obtain rfl := Option.some.inj H
   go_wp2
   go_ret
   exact ⟨by first | rfl | (simp [errW_none, errW_some] <;> rfl) | (simp only [← hji10]; first | rfl | (simp [errW_none, errW_some] <;> rfl)) | (simp [*, errW_none, errW_some] <;> rfl), by repeat (first | (with_reducible first | exact HB.out | apply zC | apply zB | apply zF | refine zE ?_ GE369.out) | exact HB.out)⟩
end Go.Proofs.YtilimpjcdeeaiaaGreat.G


namespace Go.Proofs.YtilimpjcdeeaiaaGreat.G
open Go.RowKit Go.Proofs.YtilimpjcdeeaiaaGreatW.PrintWords Go.Proofs.YtilimpjcdeeaiaaGreatW.PrintLast Go.Proofs.YtilimpjcdeeaiaaGreatW.PrintMore
attribute [local go_sem] max2_int min2_int max_two min_two max_three min_three max_four min_four   -- for this text's walks alone
def impl_Scan_isPass.f (l0_0 : List Int) (a0_1 : Int) (a0_2 : Int) (a0_3 : Int) (a0_4 : Int) : Option (Bool) := (impl_within.f a0_2 0 63).bind fun t374 => (if t374 = true then ((impl_within.f a0_1 0 a0_2).bind fun t375 => (if t375 = true then ((impl_within.f a0_4 0 13).bind fun t376 => (if t376 = true then (if a0_3 = 0 then (some true) else (some (a0_3 == (wrap64 (a0_4 + 1))))) else (some false))) else (some false))) else (some false))
set_option maxHeartbeats 8000000 in
set_option maxRecDepth 100000 in
theorem impl_Scan_isPass.calls (A0_0 : Option Addr) (c0_0 : Nat) (l0_0 : List Int) (a0_1 : Int) (a0_2 : Int) (a0_3 : Int) (a0_4 : Int) (r : Bool) (w : World) (hr0_0 : Kd.C (Kd.int .i64) w A0_0 l0_0.length l0_0) (hc0_0 : l0_0.length ≤ c0_0) (h : impl_Scan_isPass.f l0_0 a0_1 a0_2 a0_3 a0_4 = some r) :
  Calls Tryz.prog 97 #[.agg #[.slice A0_0 l0_0.length c0_0, .int .i64 a0_1, .int .i64 a0_2, .int .i64 a0_3, .int .i64 a0_4]] w fun e w' => e = .returned (.bool r) ∧ Below w.heap.size w w' := by
 have hu79 := Tryz.underlying79
 have HR0_0 := zA hr0_0
 have HC0_0 := zA hc0_0
 clear hr0_0 hc0_0
 have HB := zA (Below.refl w.heap.size w)
 have H : ((impl_within.f a0_2 0 63).bind fun t374 => (if t374 = true then ((impl_within.f a0_1 0 a0_2).bind fun t375 => (if t375 = true then ((impl_within.f a0_4 0 13).bind fun t376 => (if t376 = true then (if a0_3 = 0 then (some true) else (some (a0_3 == (wrap64 (a0_4 + 1))))) else (some false))) else (some false))) else (some false))) = some r := h
 clear h
 replace H := Option.bind_eq_some_iff.mp H
 obtain ⟨t374, A20, H⟩ := H
 try dsimp only at H
 have A2 := zA A20
 clear A20
 by_cases c3 : t374 = true
 rotate_left
 ·replace c3 := Bool.eq_false_iff.mpr c3
  subst c3
  rw [if_neg (show ¬ (false = true) by decide)] at H
  obtain rfl := Option.some.inj H
  go_enter Tryz.func97, Tryz.ntmps97
  go_wp2_with (first | ((with_reducible refine gate_dst (N := 1) rfl ?_); refine nxX (N := 1) (cs := #[.slice A0_0 l0_0.length c0_0, .int .i64 a0_1, .int .i64 a0_2, .int .i64 a0_3, .int .i64 a0_4]) (t := 79) ?_; intro gb373 hg w17 hbox hb; have n0_ := nxH hb HB; have n1_ := zA (hbox); clear HB; have HB := n0_; have BK373 := n1_; clear n0_ n1_ ; clear hb hbox hg; obtain ⟨hcz18_0, hcz18_1, hcz18_2, hcz18_3, hcz18_4⟩ := cz5 BK373) | ((with_reducible refine gate_callee (f := 49) rfl ?_); refine goesL_ (some 5) rfl rfl Tryz.func49 (by kernel_rfl) rfl #[.int .i64 a0_2, .int .i64 0, .int .i64 63] rfl (by (try simp only [zU, zV, zW]); first | done | rfl | (simp only [zR, zQ]; rfl)) ?_; (with_reducible refine (impl_within.calls a0_2 0 63 false _ A2.out).mono ?_); rintro e w' ⟨rfl, ⟨nd, rfl⟩⟩; refine ⟨_, rfl, ?_⟩))
  go_ret
  exact ⟨rfl, nxD HB⟩
 subst c3
 rw [if_pos rfl] at H
 replace H := Option.bind_eq_some_iff.mp H
 obtain ⟨t375, A40, H⟩ := H
 try dsimp only at H
 have A4 := zA A40
 clear A40
 by_cases c5 : t375 = true
 rotate_left
 ·replace c5 := Bool.eq_false_iff.mpr c5
  subst c5
  rw [if_neg (show ¬ (false = true) by decide)] at H
  obtain rfl := Option.some.inj H
  go_enter Tryz.func97, Tryz.ntmps97
  go_wp2_with (first | ((with_reducible refine gate_dst (N := 1) rfl ?_); refine nxX (N := 1) (cs := #[.slice A0_0 l0_0.length c0_0, .int .i64 a0_1, .int .i64 a0_2, .int .i64 a0_3, .int .i64 a0_4]) (t := 79) ?_; intro gb373 hg w15 hbox hb; have n0_ := nxH hb HB; have n1_ := zA (hbox); clear HB; have HB := n0_; have BK373 := n1_; clear n0_ n1_ ; clear hb hbox hg; obtain ⟨hcz16_0, hcz16_1, hcz16_2, hcz16_3, hcz16_4⟩ := cz5 BK373) | ((with_reducible refine gate_callee (f := 49) rfl ?_); refine goesL_ (some 5) rfl rfl Tryz.func49 (by kernel_rfl) rfl #[.int .i64 a0_2, .int .i64 0, .int .i64 63] rfl (by (try simp only [zU, zV, zW]); first | done | rfl | (simp only [zR, zQ]; rfl)) ?_; (with_reducible refine (impl_within.calls a0_2 0 63 true _ A2.out).mono ?_); rintro e w' ⟨rfl, ⟨nd, rfl⟩⟩; refine ⟨_, rfl, ?_⟩) | (go_at_call 49; (with_reducible refine (impl_within.calls a0_1 0 a0_2 false _ A4.out).mono ?_); rintro e w' ⟨rfl, ⟨nd, rfl⟩⟩))
  go_ret
  exact ⟨rfl, nxD HB⟩
 subst c5
 rw [if_pos rfl] at H
 replace H := Option.bind_eq_some_iff.mp H
 obtain ⟨t376, A60, H⟩ := H
 try dsimp only at H
 have A6 := zA A60
 clear A60
 by_cases c7 : t376 = true
 rotate_left
 ·replace c7 := Bool.eq_false_iff.mpr c7
  subst c7
  rw [if_neg (show ¬ (false = true) by decide)] at H
  obtain rfl := Option.some.inj H
  go_enter Tryz.func97, Tryz.ntmps97
  go_wp2_with (first | ((with_reducible refine gate_dst (N := 1) rfl ?_); refine nxX (N := 1) (cs := #[.slice A0_0 l0_0.length c0_0, .int .i64 a0_1, .int .i64 a0_2, .int .i64 a0_3, .int .i64 a0_4]) (t := 79) ?_; intro gb373 hg w13 hbox hb; have n0_ := nxH hb HB; have n1_ := zA (hbox); clear HB; have HB := n0_; have BK373 := n1_; clear n0_ n1_ ; clear hb hbox hg; obtain ⟨hcz14_0, hcz14_1, hcz14_2, hcz14_3, hcz14_4⟩ := cz5 BK373) | ((with_reducible refine gate_callee (f := 49) rfl ?_); refine goesL_ (some 5) rfl rfl Tryz.func49 (by kernel_rfl) rfl #[.int .i64 a0_2, .int .i64 0, .int .i64 63] rfl (by (try simp only [zU, zV, zW]); first | done | rfl | (simp only [zR, zQ]; rfl)) ?_; (with_reducible refine (impl_within.calls a0_2 0 63 true _ A2.out).mono ?_); rintro e w' ⟨rfl, ⟨nd, rfl⟩⟩; refine ⟨_, rfl, ?_⟩) | (go_at_call 49; (with_reducible refine (impl_within.calls a0_1 0 a0_2 true _ A4.out).mono ?_); rintro e w' ⟨rfl, ⟨nd, rfl⟩⟩) | (go_at_call 49; (with_reducible refine (impl_within.calls a0_4 0 13 false _ A6.out).mono ?_); rintro e w' ⟨rfl, ⟨nd, rfl⟩⟩))
  go_ret
  exact ⟨rfl, nxD HB⟩
 subst c7
 rw [if_pos rfl] at H
 by_cases c8 : a0_3 = 0
 rotate_left
 ·rw [if_neg c8] at H
  have c8b0 : (a0_3 == 0) = false := beq_eq_false_iff_ne.mpr c8
  have c8b1 : (a0_3 != 0) = true := bne_iff_ne.mpr c8
  obtain rfl := Option.some.inj H
  go_enter Tryz.func97, Tryz.ntmps97
  go_wp2_with (first | ((with_reducible refine gate_dst (N := 1) rfl ?_); refine nxX (N := 1) (cs := #[.slice A0_0 l0_0.length c0_0, .int .i64 a0_1, .int .i64 a0_2, .int .i64 a0_3, .int .i64 a0_4]) (t := 79) ?_; intro gb373 hg w11 hbox hb; have n0_ := nxH hb HB; have n1_ := zA (hbox); clear HB; have HB := n0_; have BK373 := n1_; clear n0_ n1_ ; clear hb hbox hg; obtain ⟨hcz12_0, hcz12_1, hcz12_2, hcz12_3, hcz12_4⟩ := cz5 BK373) | ((with_reducible refine gate_callee (f := 49) rfl ?_); refine goesL_ (some 5) rfl rfl Tryz.func49 (by kernel_rfl) rfl #[.int .i64 a0_2, .int .i64 0, .int .i64 63] rfl (by (try simp only [zU, zV, zW]); first | done | rfl | (simp only [zR, zQ]; rfl)) ?_; (with_reducible refine (impl_within.calls a0_2 0 63 true _ A2.out).mono ?_); rintro e w' ⟨rfl, ⟨nd, rfl⟩⟩; refine ⟨_, rfl, ?_⟩) | (go_at_call 49; (with_reducible refine (impl_within.calls a0_1 0 a0_2 true _ A4.out).mono ?_); rintro e w' ⟨rfl, ⟨nd, rfl⟩⟩) | (go_at_call 49; (with_reducible refine (impl_within.calls a0_4 0 13 true _ A6.out).mono ?_); rintro e w' ⟨rfl, ⟨nd, rfl⟩⟩))
  go_ret
  exact ⟨rfl, nxD HB⟩
 rw [if_pos c8] at H
 have c8b0 : (a0_3 == 0) = true := beq_iff_eq.mpr c8
 have c8b1 : (a0_3 != 0) = false := bne_eq_false_iff_eq.mpr c8
 clear c8
 obtain rfl := Option.some.inj H
 go_enter Tryz.func97, Tryz.ntmps97
 go_wp2_with (first | ((with_reducible refine gate_dst (N := 1) rfl ?_); refine nxX (N := 1) (cs := #[.slice A0_0 l0_0.length c0_0, .int .i64 a0_1, .int .i64 a0_2, .int .i64 a0_3, .int .i64 a0_4]) (t := 79) ?_; intro gb373 hg w9 hbox hb; have n0_ := nxH hb HB; have n1_ := zA (hbox); clear HB; have HB := n0_; have BK373 := n1_; clear n0_ n1_ ; clear hb hbox hg; obtain ⟨hcz10_0, hcz10_1, hcz10_2, hcz10_3, hcz10_4⟩ := cz5 BK373) | ((with_reducible refine gate_callee (f := 49) rfl ?_); refine goesL_ (some 5) rfl rfl Tryz.func49 (by kernel_rfl) rfl #[.int .i64 a0_2, .int .i64 0, .int .i64 63] rfl (by (try simp only [zU, zV, zW]); first | done | rfl | (simp only [zR, zQ]; rfl)) ?_; (with_reducible refine (impl_within.calls a0_2 0 63 true _ A2.out).mono ?_); rintro e w' ⟨rfl, ⟨nd, rfl⟩⟩; refine ⟨_, rfl, ?_⟩) | (go_at_call 49; (with_reducible refine (impl_within.calls a0_1 0 a0_2 true _ A4.out).mono ?_); rintro e w' ⟨rfl, ⟨nd, rfl⟩⟩) | (go_at_call 49; (with_reducible refine (impl_within.calls a0_4 0 13 true _ A6.out).mono ?_); rintro e w' ⟨rfl, ⟨nd, rfl⟩⟩))
 go_ret
 exact ⟨rfl, nxD HB⟩
end Go.Proofs.YtilimpjcdeeaiaaGreat.G


namespace Go.Proofs.YtilimpjcdeeaiaaGreat.G
open Go.RowKit Go.Proofs.YtilimpjcdeeaiaaGreatW.PrintWords Go.Proofs.YtilimpjcdeeaiaaGreatW.PrintLast Go.Proofs.YtilimpjcdeeaiaaGreatW.PrintMore
attribute [local go_sem] max2_int min2_int max_two min_two max_three min_three max_four min_four   -- for this text's walks alone
def impl_ScanOk.f (k : Nat) (a0_0 : Int) (a0_1 : Int) (a0_2 : Int) (a0_3 : Int) (l0_4 : List (S53)) (l1_0 : List Int) (a1_1 : Int) (a1_2 : Int) (a1_3 : Int) (a1_4 : Int) : Option (Bool) := (impl_FrameOk.f a0_0 a0_1 a0_2 a0_3 l0_4).bind fun t379 => (if t379 = true then ((impl_Frame_areComps.f k a0_0 a0_1 a0_2 a0_3 l0_4 l1_0).bind fun t380 => (if t380 = true then ((impl_Scan_isPass.f l1_0 a1_1 a1_2 a1_3 a1_4).bind fun t381 => (some t381)) else (some false))) else (some false))
set_option maxHeartbeats 8000000 in
set_option maxRecDepth 100000 in
theorem impl_ScanOk.calls (k : Nat) (a0_0 : Int) (a0_1 : Int) (a0_2 : Int) (a0_3 : Int) (A0_4 : Option Addr) (c0_4 : Nat) (l0_4 : List (S53)) (A1_0 : Option Addr) (c1_0 : Nat) (l1_0 : List Int) (a1_1 : Int) (a1_2 : Int) (a1_3 : Int) (a1_4 : Int) (r : Bool) (w : World) (hr0_4 : Kd.C k53 w A0_4 l0_4.length l0_4) (hc0_4 : l0_4.length ≤ c0_4) (hr1_0 : Kd.C (Kd.int .i64) w A1_0 l1_0.length l1_0) (hc1_0 : l1_0.length ≤ c1_0) (h : impl_ScanOk.f k a0_0 a0_1 a0_2 a0_3 l0_4 l1_0 a1_1 a1_2 a1_3 a1_4 = some r) :
  Calls Tryz.prog 82 #[.agg #[.int .i64 a0_0, .int .i64 a0_1, .int .i64 a0_2, .int .i64 a0_3, .slice A0_4 l0_4.length c0_4], .agg #[.slice A1_0 l1_0.length c1_0, .int .i64 a1_1, .int .i64 a1_2, .int .i64 a1_3, .int .i64 a1_4]] w fun e w' => e = .returned (.bool r) ∧ Below w.heap.size w w' := by
 have hu37 := Tryz.underlying37
 have hu79 := Tryz.underlying79
 have HR0_4 := zA hr0_4
 have HC0_4 := zA hc0_4
 clear hr0_4 hc0_4
 have HR1_0 := zA hr1_0
 have HC1_0 := zA hc1_0
 clear hr1_0 hc1_0
 have HB := zA (Below.refl w.heap.size w)
 have H : ((impl_FrameOk.f a0_0 a0_1 a0_2 a0_3 l0_4).bind fun t379 => (if t379 = true then ((impl_Frame_areComps.f k a0_0 a0_1 a0_2 a0_3 l0_4 l1_0).bind fun t380 => (if t380 = true then ((impl_Scan_isPass.f l1_0 a1_1 a1_2 a1_3 a1_4).bind fun t381 => (some t381)) else (some false))) else (some false))) = some r := h
 clear h
 replace H := Option.bind_eq_some_iff.mp H
 obtain ⟨t379, A30, H⟩ := H
 try dsimp only at H
 have A3 := zA A30
 clear A30
 by_cases c4 : t379 = true
 ·subst c4
  rw [if_pos rfl] at H
  replace H := Option.bind_eq_some_iff.mp H
  obtain ⟨t380, A50, H⟩ := H
  try dsimp only at H
  have A5 := zA A50
  clear A50
  by_cases c6 : t380 = true
  ·subst c6
   rw [if_pos rfl] at H
   replace H := Option.bind_eq_some_iff.mp H
   obtain ⟨t381, A70, H⟩ := H
   try dsimp only at H
   have A7 := zA A70
   clear A70
   obtain rfl := Option.some.inj H
   go_enter Tryz.func82, Tryz.ntmps82
   go_wp2_with (first | ((with_reducible refine gate_dst (N := 2) rfl ?_); refine nxX (N := 2) (cs := #[.int .i64 a0_0, .int .i64 a0_1, .int .i64 a0_2, .int .i64 a0_3, .slice A0_4 l0_4.length c0_4]) (t := 37) ?_; intro gb377 hg w8 hbox hb; have n0_ := nxH hb HB; have n1_ := zA (hbox); clear HB; have HB := n0_; have BK377 := n1_; clear n0_ n1_ ; clear hb hbox hg) | ((with_reducible refine gate_dst (N := 3) rfl ?_); refine nxX (N := 3) (cs := #[.slice A1_0 l1_0.length c1_0, .int .i64 a1_1, .int .i64 a1_2, .int .i64 a1_3, .int .i64 a1_4]) (t := 79) ?_; intro gb378 hg w9 hbox hb; have BK378 := zA (hbox); have NB377_378 := nxL BK377 hg; have NB378_377 := nxK BK377 hg; replace BK377 := nxB hb BK377; replace HB := nxH hb HB; clear hb hbox hg; have hnb10 := NB377_378.out; have hnc10 := NB378_377.out; obtain ⟨hcz11_0, hcz11_1, hcz11_2, hcz11_3, hcz11_4⟩ := cz5 BK377) | ((with_reducible refine gate_callee (f := 66) rfl ?_); refine goesL_ (some 6) rfl rfl Tryz.func66 (by kernel_rfl) rfl #[.agg #[.int .i64 a0_0, .int .i64 a0_1, .int .i64 a0_2, .int .i64 a0_3, .slice A0_4 l0_4.length c0_4]] rfl (by (try simp only [zU, zV, zW]); first | done | rfl | (simp only [zR, zQ]; rfl)) ?_; (with_reducible refine (impl_FrameOk.calls a0_0 a0_1 a0_2 a0_3 _ _ l0_4 true _ ?side1 ?side2 A3.out).mono ?_); (case side1 => exact nxC HR0_4 HB); (case side2 => exact HC0_4.out); rintro e w12 ⟨rfl, hb⟩; refine ⟨_, rfl, ?_⟩; replace BK377 := nxB hb BK377; replace BK378 := nxB hb BK378; replace HB := nxH hb HB; (try clear hb); (try clear hb2); (try clear hk); (try clear hi); obtain ⟨hcz13_0, hcz13_1, hcz13_2, hcz13_3, hcz13_4⟩ := cz5 BK377; obtain ⟨hcz14_0, hcz14_1, hcz14_2, hcz14_3, hcz14_4⟩ := cz5 BK378) | (go_at_call 96; (with_reducible refine (impl_Frame_areComps.calls k a0_0 a0_1 a0_2 a0_3 _ _ l0_4 _ _ l1_0 true _ ?side1 ?side2 ?side3 ?side4 A5.out).mono ?_); (case side1 => exact nxC HR0_4 HB); (case side2 => exact HC0_4.out); (case side3 => exact nxC HR1_0 HB); (case side4 => exact HC1_0.out); rintro e w15 ⟨rfl, hb⟩; replace BK377 := nxB hb BK377; replace BK378 := nxB hb BK378; replace HB := nxH hb HB; (try clear hb); (try clear hb2); (try clear hk); (try clear hi); obtain ⟨hcz16_0, hcz16_1, hcz16_2, hcz16_3, hcz16_4⟩ := cz5 BK378) | (go_at_call 97; (with_reducible refine (impl_Scan_isPass.calls _ _ l1_0 a1_1 a1_2 a1_3 a1_4 t381 _ ?side1 ?side2 A7.out).mono ?_); (case side1 => exact nxC HR1_0 HB); (case side2 => exact HC1_0.out); rintro e w17 ⟨rfl, hb⟩; replace BK377 := nxB hb BK377; replace BK378 := nxB hb BK378; replace HB := nxH hb HB; (try clear hb); (try clear hb2); (try clear hk); (try clear hi)))
   go_ret
   exact ⟨rfl, nxD HB⟩
  ·replace c6 := Bool.eq_false_iff.mpr c6
   subst c6
   rw [if_neg (show ¬ (false = true) by decide)] at H
   obtain rfl := Option.some.inj H
   go_enter Tryz.func82, Tryz.ntmps82
   go_wp2_with (first | ((with_reducible refine gate_dst (N := 2) rfl ?_); refine nxX (N := 2) (cs := #[.int .i64 a0_0, .int .i64 a0_1, .int .i64 a0_2, .int .i64 a0_3, .slice A0_4 l0_4.length c0_4]) (t := 37) ?_; intro gb377 hg w18 hbox hb; have n0_ := nxH hb HB; have n1_ := zA (hbox); clear HB; have HB := n0_; have BK377 := n1_; clear n0_ n1_ ; clear hb hbox hg) | ((with_reducible refine gate_dst (N := 3) rfl ?_); refine nxX (N := 3) (cs := #[.slice A1_0 l1_0.length c1_0, .int .i64 a1_1, .int .i64 a1_2, .int .i64 a1_3, .int .i64 a1_4]) (t := 79) ?_; intro gb378 hg w19 hbox hb; have BK378 := zA (hbox); have NB377_378 := nxL BK377 hg; have NB378_377 := nxK BK377 hg; replace BK377 := nxB hb BK377; replace HB := nxH hb HB; clear hb hbox hg; have hnb20 := NB377_378.out; have hnc20 := NB378_377.out; obtain ⟨hcz21_0, hcz21_1, hcz21_2, hcz21_3, hcz21_4⟩ := cz5 BK377) | ((with_reducible refine gate_callee (f := 66) rfl ?_); refine goesL_ (some 6) rfl rfl Tryz.func66 (by kernel_rfl) rfl #[.agg #[.int .i64 a0_0, .int .i64 a0_1, .int .i64 a0_2, .int .i64 a0_3, .slice A0_4 l0_4.length c0_4]] rfl (by (try simp only [zU, zV, zW]); first | done | rfl | (simp only [zR, zQ]; rfl)) ?_; (with_reducible refine (impl_FrameOk.calls a0_0 a0_1 a0_2 a0_3 _ _ l0_4 true _ ?side1 ?side2 A3.out).mono ?_); (case side1 => exact nxC HR0_4 HB); (case side2 => exact HC0_4.out); rintro e w22 ⟨rfl, hb⟩; refine ⟨_, rfl, ?_⟩; replace BK377 := nxB hb BK377; replace BK378 := nxB hb BK378; replace HB := nxH hb HB; (try clear hb); (try clear hb2); (try clear hk); (try clear hi); obtain ⟨hcz23_0, hcz23_1, hcz23_2, hcz23_3, hcz23_4⟩ := cz5 BK377; obtain ⟨hcz24_0, hcz24_1, hcz24_2, hcz24_3, hcz24_4⟩ := cz5 BK378) | (go_at_call 96; (with_reducible refine (impl_Frame_areComps.calls k a0_0 a0_1 a0_2 a0_3 _ _ l0_4 _ _ l1_0 false _ ?side1 ?side2 ?side3 ?side4 A5.out).mono ?_); (case side1 => exact nxC HR0_4 HB); (case side2 => exact HC0_4.out); (case side3 => exact nxC HR1_0 HB); (case side4 => exact HC1_0.out); rintro e w25 ⟨rfl, hb⟩; replace BK377 := nxB hb BK377; replace BK378 := nxB hb BK378; replace HB := nxH hb HB; (try clear hb); (try clear hb2); (try clear hk); (try clear hi)))
   go_ret
   exact ⟨rfl, nxD HB⟩
 ·replace c4 := Bool.eq_false_iff.mpr c4
  subst c4
  rw [if_neg (show ¬ (false = true) by decide)] at H
  obtain rfl := Option.some.inj H
  go_enter Tryz.func82, Tryz.ntmps82
  go_wp2_with (first | ((with_reducible refine gate_dst (N := 2) rfl ?_); refine nxX (N := 2) (cs := #[.int .i64 a0_0, .int .i64 a0_1, .int .i64 a0_2, .int .i64 a0_3, .slice A0_4 l0_4.length c0_4]) (t := 37) ?_; intro gb377 hg w26 hbox hb; have n0_ := nxH hb HB; have n1_ := zA (hbox); clear HB; have HB := n0_; have BK377 := n1_; clear n0_ n1_ ; clear hb hbox hg) | ((with_reducible refine gate_dst (N := 3) rfl ?_); refine nxX (N := 3) (cs := #[.slice A1_0 l1_0.length c1_0, .int .i64 a1_1, .int .i64 a1_2, .int .i64 a1_3, .int .i64 a1_4]) (t := 79) ?_; intro gb378 hg w27 hbox hb; have BK378 := zA (hbox); have NB377_378 := nxL BK377 hg; have NB378_377 := nxK BK377 hg; replace BK377 := nxB hb BK377; replace HB := nxH hb HB; clear hb hbox hg; have hnb28 := NB377_378.out; have hnc28 := NB378_377.out; obtain ⟨hcz29_0, hcz29_1, hcz29_2, hcz29_3, hcz29_4⟩ := cz5 BK377) | ((with_reducible refine gate_callee (f := 66) rfl ?_); refine goesL_ (some 6) rfl rfl Tryz.func66 (by kernel_rfl) rfl #[.agg #[.int .i64 a0_0, .int .i64 a0_1, .int .i64 a0_2, .int .i64 a0_3, .slice A0_4 l0_4.length c0_4]] rfl (by (try simp only [zU, zV, zW]); first | done | rfl | (simp only [zR, zQ]; rfl)) ?_; (with_reducible refine (impl_FrameOk.calls a0_0 a0_1 a0_2 a0_3 _ _ l0_4 false _ ?side1 ?side2 A3.out).mono ?_); (case side1 => exact nxC HR0_4 HB); (case side2 => exact HC0_4.out); rintro e w30 ⟨rfl, hb⟩; refine ⟨_, rfl, ?_⟩; replace BK377 := nxB hb BK377; replace BK378 := nxB hb BK378; replace HB := nxH hb HB; (try clear hb); (try clear hb2); (try clear hk); (try clear hi)))
  go_ret
  exact ⟨rfl, nxD HB⟩
theorem impl_areComps.l0_ev (a0_0 a0_1 a0_2 a0_3 : Int) (l0_4 : List S53) (hF : frameOkM a0_0 a0_1 a0_2 a0_3 l0_4 = true) (l : List Int) (hl : l.length ≤ 2000000) : ∀ (d i : Nat), i + d = l.length → Ev (fun k => impl_Frame_areComps.l0 k l l (l.length : Int) (i : Int) a0_0 a0_1 a0_2 a0_3 l0_4) (cgo l0_4.length l i d && decide (0 < l.length)) := by
 have hn : 1 ≤ l0_4.length ∧ l0_4.length ≤ 4 := by
  unfold frameOkM at hF
  rw [Bool.and_eq_true] at hF
  have := frameHead_len hF.1
  omega
 intro d
 induction d with
 | zero =>
  intro i hi
  refine Ev.step (fun _ => by rw [impl_Frame_areComps.l0]) (Ev.ng (by omega) (Ev.eq (Ev.now _) ?_))
  rw [cgo, Bool.true_and]
  congr 1
  rw [eq_iff_iff]; omega
 | succ d ih =>
  intro i hi
  have hlt : i < l.length := by omega
  refine Ev.step (fun _ => by rw [impl_Frame_areComps.l0]) (Ev.ip (by omega) (Ev.ip (by omega) (Ev.ip (by omega) ?_)))
  have hv : impl_Frame_has.f a0_0 a0_1 a0_2 a0_3 l0_4 (rd l i) = some (decide (0 ≤ rd l i) && decide (rd l i ≤ (l0_4.length : Int) - 1)) := by
   unfold impl_Frame_has.f impl_FrameOk.f
   rw [hF, zS, if_pos rfl, wrap_in _ (by omega) (by omega), impl_within.val]; rfl
  refine Ev.bind (Ev.c hv) ?_
  rw [cgo]
  by_cases ha : (decide (0 ≤ rd l i) && decide (rd l i ≤ (l0_4.length : Int) - 1)) = true
  ·refine Ev.ip ha ?_
   rw [ha, Bool.true_and]
   by_cases h0 : i = 0
   ·refine Ev.ng (by omega) ?_
    rw [wrap_succ i (by omega), zT h0, Bool.true_or, Bool.true_and]
    exact ih (i + 1) (by omega)
   ·refine Ev.ip (by omega) ?_
    rw [wrap_in ((i : Int) - 1) (by omega) (by omega), decide_eq_false h0, Bool.false_or]
    refine Ev.ip (by omega) (Ev.ip (by omega) ?_)
    by_cases hr : rd l ((i : Int) - 1) < rd l i
    ·refine Ev.ng (by omega) ?_
     rw [wrap_succ i (by omega), zT hr, Bool.true_and]
     exact ih (i + 1) (by omega)
    ·refine Ev.ip (by omega) (Ev.eq (Ev.now _) ?_)
     rw [decide_eq_false hr, Bool.false_and, Bool.false_and]
  ·refine Ev.ng ha (Ev.eq (Ev.now _) ?_)
   rw [Bool.eq_false_iff.2 ha, Bool.false_and, Bool.false_and]
theorem impl_isPass.val (l : List Int) (fr te hi lo : Int) : impl_Scan_isPass.f l fr te hi lo = some (passM fr te hi lo) := by
 unfold impl_Scan_isPass.f passM
 simp only [impl_within.val, zS]
 by_cases h1 : 0 ≤ te <;> by_cases h2 : te ≤ 63 <;> by_cases h3 : 0 ≤ fr <;> by_cases h4 : fr ≤ te <;> by_cases h5 : 0 ≤ lo <;> by_cases h6 : lo ≤ 13
 all_goals simp only [h1, h2, h3, h4, h5, h6, decide_true, decide_false, Bool.and_true, Bool.true_and, Bool.false_and, Bool.and_false, if_true, if_false, Bool.false_eq_true]
 all_goals first | rfl | (exfalso; omega) | skip
 all_goals
  rw [wrap_in (lo + 1) (by omega) (by omega)]
  by_cases h7 : hi = 0
  ·rw [if_pos h7, zT h7, Bool.true_or]
  ·rw [if_neg h7, decide_eq_false h7, Bool.false_or]; rfl
theorem impl_ScanOk.ev (a0_0 a0_1 a0_2 a0_3 : Int) (l0_4 : List S53) (l : List Int) (fr te hi lo : Int) (hF : frameOkM a0_0 a0_1 a0_2 a0_3 l0_4 = true) (hl : l.length ≤ 2000000) : Ev (fun k => impl_ScanOk.f k a0_0 a0_1 a0_2 a0_3 l0_4 l fr te hi lo) (scanOkM l0_4.length ⟨l, fr, te, hi, lo⟩) := by
 unfold impl_ScanOk.f
 refine Ev.bind (Ev.c (show impl_FrameOk.f a0_0 a0_1 a0_2 a0_3 l0_4 = some true by unfold impl_FrameOk.f; rw [hF])) (Ev.ip rfl (Ev.bind (impl_areComps.l0_ev a0_0 a0_1 a0_2 a0_3 l0_4 hF l hl l.length 0 (Nat.zero_add _)) ?_))
 show Ev _ (compsOkM l0_4.length l && passM fr te hi lo)
 by_cases h : (cgo l0_4.length l 0 l.length && decide (0 < l.length)) = true
 ·rw [show compsOkM l0_4.length l = true from h, Bool.true_and]
  exact Ev.ip h (Ev.bind (Ev.c (impl_isPass.val l fr te hi lo)) (Ev.now _))
 ·rw [show compsOkM l0_4.length l = false from Bool.eq_false_iff.2 h, Bool.false_and]
  exact Ev.ng h (Ev.now _)
end Go.Proofs.YtilimpjcdeeaiaaGreat.G


namespace Go.Proofs.YtilimpjcdeeaiaaGreat.G
open Go.RowKit Go.Proofs.YtilimpjcdeeaiaaGreatW.PrintWords Go.Proofs.YtilimpjcdeeaiaaGreatW.PrintLast Go.Proofs.YtilimpjcdeeaiaaGreatW.PrintMore
attribute [local go_sem] max2_int min2_int max_two min_two max_three min_three max_four min_four   -- for this text's walks alone
theorem S_rowput {tI tR g n cap base : Nat} {W : World} {ok : Nat → Prop} {xs : List (List Int)} (h : Kd.S (Kd.slice tI (Kd.int .i64)) tR W base ok (.slice (some ⟨g, 0, none⟩) n cap) xs) (i j : Nat) (hi : i < n) (hj : j < (xs.getD i []).length) :
  ∃ b cp, W.cell? ⟨g, i, none⟩ = some (.slice (some ⟨b, 0, none⟩) (xs.getD i []).length cp) ∧ W.cell? ⟨b, j, none⟩ = some (.int .i64 (rd (xs.getD i []) j)) ∧ W.frozen? ⟨b, j, none⟩ = false ∧ base ≤ b ∧ ok b ∧ (∃ cells, W.heap[b]? = some (.cells cells tI (0, 0))) ∧
   ∀ v : Int, Kd.S (Kd.slice tI (Kd.int .i64)) tR (W.setCell ⟨b, j, none⟩ (.int .i64 v)) base ok (.slice (some ⟨g, 0, none⟩) n cap) (xs.set i ((xs.getD i []).set j v)) ∧ W.grownBy (W.setCell ⟨b, j, none⟩ (.int .i64 v)) (some b) := by
 obtain ⟨oki, c, hcl, hM, hcc, hoki, hH⟩ := Kd.S_lend h [] (i : Int) (by omega) (by omega)
 obtain ⟨ve, rfl, hRe⟩ := hM
 have hx := hcc 0 ve rfl
 rw [show (Kd.slice tI (Kd.int .i64)).sz = 1 from rfl, Nat.mul_one, Nat.add_zero, Int.toNat_natCast] at hx
 rw [Int.toNat_natCast] at hRe
 obtain ⟨b, cp, rfl, hb, hlt, hcells⟩ := Kd.R_form hRe (by omega)
 have h1 := Kd.R_celln (0 : Int) hRe (j : Int) (by omega) (by omega)
 rw [Int.toNat_natCast] at h1
 have hokb : oki b := hRe.1 b rfl
 refine ⟨b, cp, hx, ?_, h1.2, hb, (hoki b hokb).1, hcells, fun v => ?_⟩
 ·rw [h1.1]
  simp [rdOf, rd]
 ·have h2 := Kd.R_putg hRe (j : Int) v
  rw [Int.toNat_natCast] at h2
  refine ⟨?_, h2.2⟩
  have h3 := Kd.H_back (Kd.H_grown hH h2.2 (fun k hk => by injection hk with hk; subst hk; exact hokb)) (Kd.M_row h2.1) (fun _ hk => hk)
  rwa [Int.toNat_natCast] at h3
end Go.Proofs.YtilimpjcdeeaiaaGreat.G


namespace Go.Proofs.YtilimpjcdeeaiaaGreat.G
open Go.RowKit Go.Proofs.YtilimpjcdeeaiaaGreatW.PrintWords Go.Proofs.YtilimpjcdeeaiaaGreatW.PrintLast Go.Proofs.YtilimpjcdeeaiaaGreatW.PrintMore
attribute [local go_sem] max2_int min2_int max_two min_two max_three min_three max_four min_four   -- for this text's walks alone
abbrev dRows : Kd (List Int) := Kd.slice 3 (Kd.int .i64)
def TellK (w0 : World) (gl cl n gs : Nat) (ok : Nat → Prop) (A1 : Option Addr) (c1 : Nat) (cs : List Int) (f t : Nat) (hi lo : Int) (L : List (List Int)) (w' : World) : Prop :=
 Kd.S dRows 66 w' w0.heap.size ok (.slice (some ⟨gl, 0, none⟩) n cl) L ∧ Below w0.heap.size w0 w' ∧ w'.heap[gs]? = some (.cells #[.slice A1 cs.length c1, .int .i64 (f : Int), .int .i64 (t : Int), .int .i64 hi, .int .i64 lo] 79 (0, 0)) ∧ Rows64 n L
def TellPost (w0 : World) (gl cl n : Nat) (left : List (List Int)) (ok : Nat → Prop) (cs : List Int) (f t : Nat) (hi lo : Int) (e : Ending) (w' : World) : Prop :=
 ∃ (b : Bool) (left' : List (List Int)), e = .returned (.bool b) ∧ Kd.S dRows 66 w' w0.heap.size ok (.slice (some ⟨gl, 0, none⟩) n cl) left' ∧ Below w0.heap.size w0 w' ∧ Rows64 n left' ∧ tellC (if hi > 0 then hi else -1) lo f (t - f + 1) cs left = if b then some left' else none
set_option maxRecDepth 100000 in
set_option maxHeartbeats 4000000 in
theorem tell_calls (w0 w : World) (gl cl n : Nat) (left : List (List Int)) (ok : Nat → Prop) (A1 : Option Addr) (c1 : Nat) (cs : List Int) (f t : Nat) (hi lo : Int) (hS : Kd.S dRows 66 w w0.heap.size ok (.slice (some ⟨gl, 0, none⟩) n cl) left) (hB : Below w0.heap.size w0 w) (hR : Kd.C (Kd.int .i64) w0 A1 cs.length cs) (hc : cs.length ≤ c1) (hL : Rows64 n left) (ft : f ≤ t) (t63 : t ≤ 63) (hcs : ∀ c ∈ cs, 0 ≤ c ∧ c < n) (hm : cs.length ≤ 100) :
  Calls Tryz.prog 84 #[.slice (some ⟨gl, 0, none⟩) n cl, .agg #[.slice A1 cs.length c1, .int .i64 (f : Int), .int .i64 (t : Int), .int .i64 hi, .int .i64 lo]] w (TellPost w0 gl cl n left ok cs f t hi lo) := by
 have HR := zA hR
 have HC := zA hc
 have HCS := zA hcs
 have HS := zA hS
 have HB := zA hB
 have HL := zA hL
 clear hR hc hcs hS hB hL
 go_enter Tryz.func84, Tryz.ntmps84
 go_upto_region 1 with (fail)
 have k1 := blk_new w (Obj.cells #[.slice A1 cs.length c1, .int .i64 (f : Int), .int .i64 (t : Int), .int .i64 hi, .int .i64 lo] 79)
 have hS1 := Kd.S_old HS.out (zC (Below.refl w.heap.size w) (Obj.cells #[.slice A1 cs.length c1, .int .i64 (f : Int), .int .i64 (t : Int), .int .i64 hi, .int .i64 lo] 79))
 have HK := zA (show TellK w0 gl cl n w.heap.size (fun k => ok k ∧ k < w.heap.size) A1 c1 cs f t hi lo left (w.alloc (Obj.cells #[.slice A1 cs.length c1, .int .i64 (f : Int), .int .i64 (t : Int), .int .i64 hi, .int .i64 lo] 79)) from ⟨hS1, zC HB.out _, k1, HL.out⟩)
 clear k1 hS1 HS HB HL
 generalize w.alloc (Obj.cells #[.slice A1 cs.length c1, .int .i64 (f : Int), .int .i64 (t : Int), .int .i64 hi, .int .i64 lo] 79) = W1 at HK ⊢
 generalize w.heap.size = gs at HK ⊢
 have q3 := zK HK.out.2.2.1 3
 have q0 := zK HK.out.2.2.1 0
 simp at q3 q0
 obtain ⟨want, hwant⟩ : ∃ z, z = (if hi > 0 then hi else -1) := ⟨_, rfl⟩
 have HW := zA hwant
 by_cases hpos : 0 < hi
 all_goals
  (first | (have hw2 : want = hi := by rw [hwant, if_pos hpos]) | (have hw2 : want = -1 := by rw [hwant, if_neg hpos]))
  (first | (have hd : decide (0 < hi) = true := zT hpos) | (have hd : decide (0 < hi) = false := decide_eq_false hpos))
  clear hwant hpos
  go_wp2
  clear q3 q0 hd
  go_loopw [17] (fun v17 w' => ∃ (i : Nat) (L : List (List Int)), v17 = .int .i64 i ∧ i ≤ cs.length ∧ Aside0 (TellK w0 gl cl n gs (fun k => ok k ∧ k < gs) A1 c1 cs f t hi lo L w') ∧ Aside0 (tellC want lo f (t - f + 1) (cs.drop i) L = tellC want lo f (t - f + 1) cs left)) (fun v17 w' => cs.length - (intOf v17).toNat)
  case atStart => exact ⟨0, left, rfl, Nat.zero_le _, HK, ⟨by rw [List.drop_zero]⟩⟩
  case round =>
   clear HK
   obtain ⟨i, L, rfl, hil, HK, HG⟩ := hrel
   obtain ⟨hs_, hb_, hk_, h64⟩ := HK.out
   by_cases hlt : i < cs.length
   ·obtain ⟨ad, rfl, hcell⟩ := Kd.at_int HR.out (i : Int) (by omega) (by omega)
    rw [Int.toNat_natCast, rd_nat cs i hlt] at hcell
    replace hcell := (hb_.cell (World.block_lt_of_cell? w0 _ hcell)).trans hcell
    obtain ⟨c0, c9⟩ := HCS.out cs[i] (List.getElem_mem hlt)
    obtain ⟨c, hce⟩ : ∃ c : Nat, cs[i] = (c : Int) := ⟨cs[i].toNat, by omega⟩
    rw [hce] at hcell c9
    have hcn : c < n := by omega
    have HG2 := zA (show (tellK want lo c (t - f + 1) f L).bind (tellC want lo f (t - f + 1) (cs.drop (i + 1))) = tellC want lo f (t - f + 1) cs left by rw [← HG.out, List.drop_eq_getElem_cons hlt, hce]; rfl)
    have q1 := zK hk_ 1
    simp at q1
    have HK2 := zA (show TellK w0 gl cl n gs (fun k => ok k ∧ k < gs) (some ad) c1 cs f t hi lo L wr from ⟨hs_, hb_, hk_, h64⟩)
    clear HK HG hs_ hb_ hk_ h64 c0 c9 hce
    go_wp2
    go_loopw [8] (fun v8 w' => ∃ (k : Nat) (L2 : List (List Int)), v8 = .int .i64 k ∧ k ≤ t + 1 ∧ Aside0 (TellK w0 gl cl n gs (fun k => ok k ∧ k < gs) (some ad) c1 cs f t hi lo L2 w') ∧ Aside0 ((tellK want lo c (t + 1 - k) k L2).bind (tellC want lo f (t - f + 1) (cs.drop (i + 1))) = tellC want lo f (t - f + 1) cs left)) (fun v8 w' => t + 1 - (intOf v8).toNat)
    case atStart => exact ⟨f, L, rfl, by omega, HK2, ⟨by rw [show t + 1 - f = t - f + 1 by omega]; exact HG2.out⟩⟩
    case round =>
     clear HK2 HG2 hcell q1
     obtain ⟨k, L2, rfl, hkt, HK, HG⟩ := hrel
     obtain ⟨hs_, hb_, hk_, h64⟩ := HK.out
     have q2 := zK hk_ 2
     have q4 := zK hk_ 4
     simp at q2 q4
     by_cases hlt2 : k ≤ t
     ·obtain ⟨b, cp, hx, hy, hfz, hbb, hob, ⟨cells, hcl⟩, hput⟩ := S_rowput hs_ c k hcn (by rw [h64.get c hcn]; omega)
      obtain ⟨hput1, hput2⟩ := hput lo
      rw [h64.get c hcn] at hx
      have hbg : b ≠ gs := by have := hob.2; omega
      have HK3 := zA (show TellK w0 gl cl n gs (fun k => ok k ∧ k < gs) (some ad) c1 cs f t hi lo (L2.set c ((L2.getD c []).set k lo)) (wr.setCell ⟨b, k, none⟩ (.int .i64 lo)) from ⟨hput1, zE hb_ hbb, (Below.heap_setCell _ _ _ gs (fun e => hbg e.symm)).trans hk_, h64.set c k lo hcn⟩)
      obtain ⟨y, hye⟩ : ∃ y, y = rd (L2.getD c []) (k : Int) := ⟨_, rfl⟩
      rw [← hye] at hy
      have HYE := zA hye
      have HS4 := zA (yB hs_ (ok' := ok) (fun _ hk => hk.1))
      have HB4 := zA hb_
      have H644 := zA h64
      clear hput1 hput2 hput hob hcl hbb hs_ hb_ hk_ h64 hye HK
      by_cases hq : y = want
      ·have hne : (y != want) = false := bne_eq_false_iff_eq.mpr hq
       rw [hw2] at hne
       have HG3 := zA (show (tellK want lo c (t + 1 - (k + 1)) (k + 1) (L2.set c ((L2.getD c []).set k lo))).bind (tellC want lo f (t - f + 1) (cs.drop (i + 1))) = tellC want lo f (t - f + 1) cs left by rw [← HG.out, show t + 1 - k = (t + 1 - (k + 1)) + 1 by omega, tellK, if_pos (by rw [← HYE.out]; exact hq)])
       clear HG hq
       go_wp2
       go_region
       go_wp2
       go_roundw
       case rel => exact ⟨k + 1, L2.set c ((L2.getD c []).set k lo), by go_num, by omega, ⟨by obtain ⟨z1, z2, z3, z4⟩ := HK3.out; exact ⟨by repeat (first | exact z1 | apply zZ | apply yA), by repeat (first | exact z2 | apply zB | apply below_drew), by repeat (first | exact z3 | apply zG | apply zH), z4⟩⟩, HG3⟩
       case measure => simp [intOf]; omega
      ·have hne : (y != want) = true := bne_iff_ne.mpr hq
       rw [hw2] at hne
       have HE := zA (show tellC (if hi > 0 then hi else -1) lo f (t - f + 1) cs left = if false then some L2 else none by rw [← HW.out, ← HG.out, show t + 1 - k = (t + 1 - (k + 1)) + 1 by omega, tellK, if_neg (by rw [← HYE.out]; exact hq)]; rfl)
       clear HG hq
       go_wp2
       go_ret
       exact ⟨false, L2, rfl, by repeat (first | exact HS4.out | apply zZ | apply yA), by repeat (first | exact HB4.out | apply zB | apply below_drew), H644.out, HE.out⟩
     ·obtain rfl : k = t + 1 := by omega
      have HG3 := zA (show tellC want lo f (t - f + 1) (cs.drop (i + 1)) L2 = tellC want lo f (t - f + 1) cs left by rw [← HG.out, Nat.sub_self]; rfl)
      have HK3 := zA (show TellK w0 gl cl n gs (fun k => ok k ∧ k < gs) (some ad) c1 cs f t hi lo L2 wr from ⟨hs_, hb_, hk_, h64⟩)
      clear HG HK hs_ hb_ hk_ h64
      go_wp2
      go_roundw
      case rel => exact ⟨i + 1, L2, by go_num, by omega, HK3, HG3⟩
      case measure => simp [intOf]; omega
   ·obtain rfl : i = cs.length := by omega
    have HE := zA (show tellC (if hi > 0 then hi else -1) lo f (t - f + 1) cs left = if true then some L else none by rw [← HW.out, ← HG.out, List.drop_length]; rfl)
    have HS2 := zA (yB hs_ (ok' := ok) (fun _ hk => hk.1))
    have HB2 := zA hb_
    have H64 := zA h64
    clear HK HG hs_ hb_ hk_ h64
    go_wp2
    go_ret
    exact ⟨true, L, rfl, by repeat (first | exact HS2.out | apply zZ | apply yA), by repeat (first | exact HB2.out | apply zB | apply below_drew), H64.out, HE.out⟩
end Go.Proofs.YtilimpjcdeeaiaaGreat.G


namespace Go.Proofs.YtilimpjcdeeaiaaGreat.G
open Go.RowKit Go.Proofs.YtilimpjcdeeaiaaGreatW.PrintWords Go.Proofs.YtilimpjcdeeaiaaGreatW.PrintLast Go.Proofs.YtilimpjcdeeaiaaGreatW.PrintMore
attribute [local go_sem] max2_int min2_int max_two min_two max_three min_three max_four min_four   -- for this text's walks alone
def ScanP (w : World) (fn : Nat) (caps : Array Value) (D : S79 → Prop) (P : S79 → Bool) : Prop :=
 (∀ (args : Array Value) (W1 : World), Sem.run Tryz.prog (callFunc fn args) W1 = Result.ok (Next.enter fn args) W1) ∧
 ∀ (A1 : Option Addr) (c1 : Nat) (x : S79) (W1 : World), Below w.heap.size w W1 → D x → Kd.C (Kd.int .i64) W1 A1 x.f0.length x.f0 → x.f0.length ≤ c1 → Calls Tryz.prog fn (#[.agg #[.slice A1 x.f0.length c1, .int .i64 x.f1, .int .i64 x.f2, .int .i64 x.f3, .int .i64 x.f4]] ++ caps) W1 fun e w' => e = .returned (.bool (P x)) ∧ Below W1.heap.size W1 w'
theorem ScanP.at_ {w W : World} {fn : Nat} {caps : Array Value} {D : S79 → Prop} {P : S79 → Bool} (h : ScanP w fn caps D P) (hb : Below w.heap.size w W) : ScanP W fn caps D P :=
 ⟨h.1, fun _ _ x W1 hW => h.2 _ _ x W1 (Below.trans hb (Below.mono hW hb.size))⟩
set_option maxRecDepth 100000 in
set_option maxHeartbeats 4000000 in
theorem idx_ScanP (fn : Nat) (caps : Array Value) (D : S79 → Prop) (P : S79 → Bool) (A0 : Option Addr) (c0 : Nat) (l0 : List S79) (w : World) (hS : ScanP w fn caps D P) (hD : ∀ x ∈ l0, D x) (hr0 : Kd.C k79 w A0 l0.length l0) (hc0 : l0.length ≤ c0) (hm : l0.length ≤ 100000000) :
  Calls Tryz.prog 95 #[.slice A0 l0.length c0, .func (.func fn) #[] caps] w fun e w' => ∃ r : Int, e = .returned (.int .i64 r) ∧ (0 ≤ r ↔ l0.any P = true) ∧ Below w.heap.size w w' := by
 have HR0 := zA hr0
 have HC0 := zA hc0
 have HS := zA hS
 have HD := zA hD
 clear hr0 hc0 hS hD
 have HB0 := zA (Below.refl w.heap.size w)
 go_enter Tryz.func95, Tryz.ntmps95
 go_wp2
 go_loopw [8] (fun i w' => ∃ k : Nat, i = .int .i64 k ∧ k ≤ l0.length ∧ Aside0 ((l0.take k).any P = false) ∧ Aside0 (Below w.heap.size w w')) (fun i w' => l0.length - (intOf i).toNat)
 case atStart => exact ⟨0, rfl, by omega, ⟨by simp⟩, by first | exact HB0 | exact ⟨by repeat (first | exact HB0.out | apply zB | apply below_drew)⟩⟩
 case round =>
  clear HB0
  obtain ⟨k, rfl, hk, HA, HB⟩ := hrel
  by_cases hlt : k < l0.length
  ·obtain ⟨ad, A1, c1, e1, hx0, hx1, hx2, hx3, hx4, hl, hi⟩ := at_T79 (Kd.C_below HR0.out HB.out) (k : Int) (by omega) (by omega)
   cases e1
   rw [Int.toNat_natCast] at hx0 hx1 hx2 hx3 hx4
   have HR1 := zA hi; have HC1 := zA hl; clear hi hl
   have hgl : rd_T79 l0 k = l0[k] := by simp [rd_T79, hlt]
   cases hp : P (rd_T79 l0 k)
   all_goals
    have HP := zA hp
    have HG := zA hgl
    clear hp hgl
    go_wp2_with fail
    rw [HS.out.1]
    simp only [Oper.upon_enter]
    have HBW := zA (show Below w.heap.size w _ from by first | exact HB.out | (repeat (first | exact HB.out | apply zB | apply below_drew)))
    refine (HS.out.2 A1 c1 (rd_T79 l0 k) wr HB.out (by rw [HG.out]; exact HD.out _ (List.getElem_mem _)) HR1.out HC1.out).mono ?_
    rw [HP.out]
    rintro e w' ⟨rfl, hb2⟩
    have HB2 := zA (Below.trans HB.out (Below.mono hb2 HB.out.size))
    clear hb2
   ·go_wp2
    go_roundw
    case rel => exact ⟨k + 1, by go_num, by omega, ⟨by rw [List.take_succ_eq_append_getElem hlt, List.any_append, HA.out]; simp [← HG.out, HP.out]⟩, by first | exact HB2 | exact ⟨by repeat (first | exact HB2.out | apply zB | apply below_drew)⟩⟩
    case measure => simp [intOf]; omega
   ·go_wp2
    go_ret
    exact ⟨_, rfl, by simp only [Int.natCast_nonneg, true_iff]; rw [List.any_eq_true]; exact ⟨l0[k], List.getElem_mem _, by rw [← HG.out, HP.out]⟩, by repeat (first | exact HB2.out | apply zB | apply below_drew)⟩
  ·obtain rfl : k = l0.length := by omega
   go_wp2
   go_ret
   exact ⟨_, rfl, by have := HA.out; rw [List.take_length] at this; simp [this], by repeat (first | exact HB.out | apply zB | apply below_drew)⟩
set_option maxRecDepth 100000 in
set_option maxHeartbeats 4000000 in
theorem cont_ScanP (fn : Nat) (caps : Array Value) (D : S79 → Prop) (P : S79 → Bool) (A0 : Option Addr) (c0 : Nat) (l0 : List S79) (w : World) (hS : ScanP w fn caps D P) (hD : ∀ x ∈ l0, D x) (hr0 : Kd.C k79 w A0 l0.length l0) (hc0 : l0.length ≤ c0) (hm : l0.length ≤ 100000000) :
  Calls Tryz.prog 80 #[.slice A0 l0.length c0, .func (.func fn) #[] caps] w fun e w' => e = .returned (.bool (l0.any P)) ∧ Below w.heap.size w w' := by
 have HR0 := zA hr0
 have HC0 := zA hc0
 have HS := zA hS
 have HD := zA hD
 clear hr0 hc0 hS hD
 cases ha : l0.any P
 all_goals
  have HAA := zA ha
  clear ha
  go_enter Tryz.func80, Tryz.ntmps80
  go_wp2_with (first | (go_at_call 95; (with_reducible refine (idx_ScanP fn caps D P _ _ l0 _ HS.out HD.out ?side1 ?side2 hm).mono ?_); (case side1 => exact HR0.out); (case side2 => exact HC0.out); rintro e w' ⟨r, rfl, hq, hb⟩; have HB := zA hb; clear hb; rw [HAA.out] at hq; (first | have hq2 : 0 ≤ r := hq.2 rfl | have hq2 : ¬ 0 ≤ r := fun z => absurd (hq.1 z) (by decide)); clear hq))
  go_ret
  exact ⟨by simp [hq2], by repeat (first | exact HB.out | apply zB | apply below_drew)⟩
end Go.Proofs.YtilimpjcdeeaiaaGreat.G


namespace Go.Proofs.YtilimpjcdeeaiaaGreat.G
open Go.RowKit Go.Proofs.YtilimpjcdeeaiaaGreatW.PrintWords Go.Proofs.YtilimpjcdeeaiaaGreatW.PrintLast Go.Proofs.YtilimpjcdeeaiaaGreatW.PrintMore
attribute [local go_sem] max2_int min2_int max_two min_two max_three min_three max_four min_four   -- for this text's walks alone
def impl_leftOf.f (a0_0 a0_1 a0_2 a0_3 : Int) (l0_4 : List S53) (l1 : List S79) : Option (List (List Int) × Bool) := if frameOkM a0_0 a0_1 a0_2 a0_3 l0_4 = true ∧ l1.length ≤ 2000000 ∧ ∀ s ∈ l1, s.f0.length ≤ 2000000 then some (leftRes (leftM l0_4.length l1)) else none
set_option maxRecDepth 100000 in
set_option maxHeartbeats 4000000 in
theorem left_lit (a0_0 a0_1 a0_2 a0_3 : Int) (A0_4 : Option Addr) (c0_4 : Nat) (l0_4 : List S53) (w : World) (g : Nat) (hF : frameOkM a0_0 a0_1 a0_2 a0_3 l0_4 = true) (hg : w.heap[g]? = some (.cells #[.int .i64 a0_0, .int .i64 a0_1, .int .i64 a0_2, .int .i64 a0_3, .slice A0_4 l0_4.length c0_4] 37 (0, 0))) (hr0_4 : Kd.C k53 w A0_4 l0_4.length l0_4) (hc0_4 : l0_4.length ≤ c0_4) :
  ScanP w 81 #[.pointer (some ⟨g, 0, none⟩)] (fun x => x.f0.length ≤ 2000000) (fun x => !scanOkM l0_4.length x) := by
 refine ⟨fun args W => by go_simp, fun A1 c1 x W1 hb hd h1 h2 => ?_⟩
 obtain ⟨k, hk⟩ := (impl_ScanOk.ev a0_0 a0_1 a0_2 a0_3 l0_4 x.f0 x.f1 x.f2 x.f3 x.f4 hF hd).rounds
 have hk1 : W1.heap[g]? = some (.cells #[.int .i64 a0_0, .int .i64 a0_1, .int .i64 a0_2, .int .i64 a0_3, .slice A0_4 l0_4.length c0_4] 37 (0, 0)) := (hb.block g (blk_lt hg)).trans hg
 have HR0 := zA (Kd.C_below hr0_4 hb)
 have HC0 := zA hc0_4
 have HR1 := zA h1
 have HC1 := zA h2
 have HK := zA hk
 have hk2 := zD hk1 (Obj.cells #[.slice A1 x.f0.length c1, .int .i64 x.f1, .int .i64 x.f2, .int .i64 x.f3, .int .i64 x.f4] 79)
 have HB1 := zA (zC (Below.refl W1.heap.size W1) (Obj.cells #[.slice A1 x.f0.length c1, .int .i64 x.f1, .int .i64 x.f2, .int .i64 x.f3, .int .i64 x.f4] 79))
 have k3 := blk_new W1 (Obj.cells #[.slice A1 x.f0.length c1, .int .i64 x.f1, .int .i64 x.f2, .int .i64 x.f3, .int .i64 x.f4] 79)
 clear hr0_4 hc0_4 h1 h2 hk hb hd hg hk1 hF
 show Calls Tryz.prog 81 #[.agg #[.slice A1 x.f0.length c1, .int .i64 x.f1, .int .i64 x.f2, .int .i64 x.f3, .int .i64 x.f4], .pointer (some ⟨g, 0, none⟩)] W1 _
 go_enter Tryz.func81, Tryz.ntmps81
 go_upto_region 1 with (fail)
 generalize W1.alloc (Obj.cells #[.slice A1 x.f0.length c1, .int .i64 x.f1, .int .i64 x.f2, .int .i64 x.f3, .int .i64 x.f4] 79) = W2 at hk2 HB1 k3 ⊢
 generalize W1.heap.size = g2 at k3 ⊢
 have p0 := zK hk2 0
 have p1 := zK hk2 1
 have p2 := zK hk2 2
 have p3 := zK hk2 3
 have p4 := zK hk2 4
 have q0 := zK k3 0
 have q1 := zK k3 1
 have q2 := zK k3 2
 have q3 := zK k3 3
 have q4 := zK k3 4
 simp at p0 p1 p2 p3 p4 q0 q1 q2 q3 q4
 clear hk2 k3
 go_wp2_with (first | (go_at_call 82; go_loud ((with_reducible refine (impl_ScanOk.calls k a0_0 a0_1 a0_2 a0_3 _ _ l0_4 _ _ x.f0 x.f1 x.f2 x.f3 x.f4 _ _ ?s1 ?s2 ?s3 ?s4 HK.out).mono ?_); (case s1 => exact Kd.C_below HR0.out HB1.out); (case s2 => exact HC0.out); (case s3 => exact Kd.C_below HR1.out HB1.out); (case s4 => exact HC1.out)); rintro e w' ⟨rfl, hb_⟩; have HBc := zA (Below.trans HB1.out (Below.mono hb_ HB1.out.size)); clear hb_))
 go_ret
 exact ⟨rfl, by repeat (first | exact HBc.out | apply zB | apply below_drew)⟩
abbrev dRowsL : Kd (List Int) := Kd.slice 3 (Kd.int .i64)
theorem untold64 (n : Nat) : Rows64 n (untoldM n) := ⟨by simp [untoldM], fun x hx => by rw [(List.mem_replicate.1 hx).2]; simp⟩
def LeftP (w : World) (r1 : List (List Int)) (r2 : Bool) (e : Ending) (w' : World) : Prop :=
 ∃ v0_ : Value, e = .returned (.tuple #[v0_, .bool r2]) ∧ Kd.S dRowsL 66 w' w.heap.size (fun _ => True) v0_ r1 ∧ Below w.heap.size w w'
set_option maxRecDepth 100000 in
set_option maxHeartbeats 4000000 in
theorem leftOf_calls (a0_0 a0_1 a0_2 a0_3 : Int) (A0_4 : Option Addr) (c0_4 : Nat) (l0_4 : List S53) (A1 : Option Addr) (c1 : Nat) (l1 : List S79) (r1 : List (List Int)) (r2 : Bool) (w : World) (hr0_4 : Kd.C k53 w A0_4 l0_4.length l0_4) (hc0_4 : l0_4.length ≤ c0_4) (hr1 : Kd.C k79 w A1 l1.length l1) (hc1 : l1.length ≤ c1) (hF : frameOkM a0_0 a0_1 a0_2 a0_3 l0_4 = true) (hl : l1.length ≤ 2000000) (hx : ∀ s ∈ l1, s.f0.length ≤ 2000000) (hM : leftRes (leftM l0_4.length l1) = (r1, r2)) :
  Calls Tryz.prog 70 #[.agg #[.int .i64 a0_0, .int .i64 a0_1, .int .i64 a0_2, .int .i64 a0_3, .slice A0_4 l0_4.length c0_4], .slice A1 l1.length c1] w (LeftP w r1 r2) := by
 obtain ⟨n1, n4⟩ := frameOk_len hF
 have HM := zA hM
 have HF := zA hF
 have HR0 := zA hr0_4
 have HC0 := zA hc0_4
 have HR1 := zA hr1
 have HC1 := zA hc1
 have HX := zA hx
 clear hr0_4 hc0_4 hr1 hc1 hF hx hM
 have k1 := blk_new w (Obj.cells #[.int .i64 a0_0, .int .i64 a0_1, .int .i64 a0_2, .int .i64 a0_3, .slice A0_4 l0_4.length c0_4] 37)
 have HB := zA (show Below w.heap.size w (w.alloc (Obj.cells #[.int .i64 a0_0, .int .i64 a0_1, .int .i64 a0_2, .int .i64 a0_3, .slice A0_4 l0_4.length c0_4] 37)) from zC (Below.refl _ _) _)
 go_enter Tryz.func70, Tryz.ntmps70
 go_upto_region 1 with (fail)
 generalize w.alloc (Obj.cells #[.int .i64 a0_0, .int .i64 a0_1, .int .i64 a0_2, .int .i64 a0_3, .slice A0_4 l0_4.length c0_4] 37) = W1 at k1 HB ⊢
 have K1 := zA k1
 clear k1
 by_cases h40 : 40 < l1.length
 ·have e : leftM l0_4.length l1 = none := by unfold leftM; rw [if_neg (fun hq => by have := hq.1; omega)]
  have HE := zA (show ([], false) = (r1, r2) by rw [← HM.out, e]; rfl)
  clear e HM
  go_wp2
  go_ret2
  obtain ⟨rfl, rfl⟩ := Prod.mk.inj HE.out
  exact ⟨_, rfl, Kd.S_nil _ _ _ _ _, by repeat (first | exact HB.out | apply zB | apply below_drew)⟩
 have d40 : decide ((40 : Int) < (l1.length : Int)) = false := decide_eq_false (by omega)
 have d41 : decide (40 < l1.length) = false := decide_eq_false h40
 have h41 : l1.length ≤ 40 := by omega
 clear h40
 cases hall : l1.any (fun x => !scanOkM l0_4.length x)
 all_goals
  have HALL := zA hall
  clear hall
 ·go_upto_region 3 with (first | (go_at_call 80; go_loud ((with_reducible refine (cont_ScanP _ _ (fun x => x.f0.length ≤ 2000000) (fun x => !scanOkM l0_4.length x) _ _ l1 _ ?sp HX.out ?sr HC1.out (by omega)).mono ?_); (case sp => exact left_lit a0_0 a0_1 a0_2 a0_3 A0_4 c0_4 l0_4 _ w.heap.size HF.out K1.out (Kd.C_below HR0.out HB.out) HC0.out); (case sr => exact Kd.C_below HR1.out HB.out)); rintro e w' ⟨rfl, hb_⟩; have HBb := zA (Below.trans HB.out (Below.mono hb_ HB.out.size)); have K2 := zA ((hb_.block _ (blk_lt K1.out)).trans K1.out); rw [HALL.out]; clear hb_))
  have HSC := zA (show ∀ s ∈ l1, scanOkM l0_4.length s = true from fun s hs => by
   have h1 := HALL.out
   rw [List.any_eq_false] at h1
   simpa using h1 s hs)
  have HLM := zA (show leftRes (leftGo l1 (untoldM l0_4.length)) = (r1, r2) by
   rw [← HM.out, leftM, if_pos ⟨h41, List.all_eq_true.2 HSC.out⟩])
  have q0 := zK K2.out 0
  have q1 := zK K2.out 1
  have q2 := zK K2.out 2
  have q3 := zK K2.out 3
  have q4 := zK K2.out 4
  simp at q0 q1 q2 q3 q4
  clear HALL HM K1 HB K2 d40 d41
  go_wp2_with (first | (go_at_call 83; go_loud ((with_reducible refine (impl_untold.calls a0_0 a0_1 a0_2 a0_3 _ _ l0_4 (untoldM l0_4.length) _ ?s1 ?s2 ?s3).mono ?_); (case s1 => exact Kd.C_below HR0.out HBb.out); (case s2 => exact HC0.out); (case s3 => unfold impl_untold.f; rw [if_pos (by omega)])); rintro e w' ⟨v, rfl, hs_, hb_⟩; have HS := zA (Kd.S_lower hs_ HBb.out.size); have HBc := zA (Below.trans HBb.out (Below.mono hb_ HBb.out.size)); clear hb_ hs_ q0 q1 q2 q3 q4))
  clear HBb
  obtain ⟨gl, cl, rfl, hg1, hg2, _⟩ := Kd.R_form (Kd.S_R HS.out) (by rw [(untold64 _).1]; omega)
  rw [(untold64 l0_4.length).1] at HS ⊢
  go_loopw [21] (fun v21 w' => ∃ (i : Nat) (L : List (List Int)), v21 = .int .i64 i ∧ i ≤ l1.length ∧ Aside0 (Kd.S dRowsL 66 w' w.heap.size (fun _ => True) (.slice (some ⟨gl, 0, none⟩) l0_4.length cl) L) ∧ Aside0 (Below w.heap.size w w') ∧ Aside0 (Rows64 l0_4.length L) ∧ Aside0 (leftRes (leftGo (l1.drop i) L) = (r1, r2))) (fun v21 w' => l1.length - (intOf v21).toNat)
  case atStart => exact ⟨0, _, rfl, Nat.zero_le _, ⟨by repeat (first | exact HS.out | apply zZ | apply yA)⟩, ⟨by repeat (first | exact HBc.out | apply zB | apply below_drew)⟩, ⟨untold64 _⟩, ⟨by rw [List.drop_zero]; exact HLM.out⟩⟩
  case round =>
   clear HS HBc HLM
   obtain ⟨i, L, rfl, hil, HS, HB, H64, HLM⟩ := hrel
   by_cases hlt : i < l1.length
   rotate_left
   ·obtain rfl : i = l1.length := by omega
    have HE := zA (show (L, true) = (r1, r2) by rw [← HLM.out, List.drop_length]; rfl)
    clear HLM
    go_wp2
    go_ret2
    obtain ⟨rfl, rfl⟩ := Prod.mk.inj HE.out
    exact ⟨_, rfl, by repeat (first | exact HS.out | apply zZ | apply yA), by repeat (first | exact HB.out | apply zB | apply below_drew)⟩
   obtain ⟨ad, A2, c2, e1, hx0, hx1, hx2, hx3, hx4, hlx, hix⟩ := at_T79 HR1.out (i : Int) (by omega) (by omega)
   cases e1
   rw [Int.toNat_natCast] at hx0 hx1 hx2 hx3 hx4
   obtain ⟨x, hxe⟩ : ∃ x, x = rd_T79 l1 i := ⟨_, rfl⟩
   rw [← hxe] at hx0 hx1 hx2 hx3 hx4 hlx hix
   have hxl : x = l1[i] := by rw [hxe]; simp [rd_T79, hlt]
   have hok := HSC.out x (by rw [hxl]; exact List.getElem_mem hlt)
   have hok2 := hok
   unfold scanOkM at hok2
   rw [Bool.and_eq_true] at hok2
   obtain ⟨g0, g1, g2, g3, g4, g5⟩ := pass_of hok2.2
   have hcl := comps_len hok2.1
   have HCS := zA (comps_in hok2.1)
   obtain ⟨f, hf⟩ : ∃ f : Nat, x.f1 = (f : Int) := ⟨x.f1.toNat, by omega⟩
   obtain ⟨t, ht⟩ : ∃ t : Nat, x.f2 = (t : Int) := ⟨x.f2.toNat, by omega⟩
   have hm : x.f0.length ≤ 100 := by omega
   have ft : f ≤ t := by omega
   have t63 : t ≤ 63 := by omega
   have HTR := zA (show leftRes ((tellC (if x.f3 > 0 then x.f3 else -1) x.f4 f (t - f + 1) x.f0 L).bind (leftGo (l1.drop (i + 1)))) = (r1, r2) by
    rw [← HLM.out, List.drop_eq_getElem_cons hlt, ← hxl, leftGo, tellR, hf, ht, Int.toNat_natCast, show ((t : Int) - (f : Int) + 1).toNat = t - f + 1 by omega])
   rw [hf] at hx1
   rw [ht] at hx2
   replace hx0 := (HB.out.cell (World.block_lt_of_cell? w _ hx0)).trans hx0
   replace hx1 := (HB.out.cell (World.block_lt_of_cell? w _ hx1)).trans hx1
   replace hx2 := (HB.out.cell (World.block_lt_of_cell? w _ hx2)).trans hx2
   replace hx3 := (HB.out.cell (World.block_lt_of_cell? w _ hx3)).trans hx3
   replace hx4 := (HB.out.cell (World.block_lt_of_cell? w _ hx4)).trans hx4
   have HRX := zA hix
   have HCX := zA hlx
   clear hok hok2 g0 g1 g2 g3 g4 g5 hcl hf ht hix hlx hxl hxe HLM
   go_upto_region 7 with (fail)
   clear hx0 hx1 hx2 hx3 hx4
   have HS1 := zA (zY HS.out (Obj.cells #[.slice A2 x.f0.length c2, .int .i64 (f : Int), .int .i64 (t : Int), .int .i64 x.f3, .int .i64 x.f4] 79))
   have HB1 := zA (zC HB.out (Obj.cells #[.slice A2 x.f0.length c2, .int .i64 (f : Int), .int .i64 (t : Int), .int .i64 x.f3, .int .i64 x.f4] 79))
   have k2 := blk_new wr (Obj.cells #[.slice A2 x.f0.length c2, .int .i64 (f : Int), .int .i64 (t : Int), .int .i64 x.f3, .int .i64 x.f4] 79)
   generalize wr.heap.size = g3 at k2 ⊢
   generalize wr.alloc (Obj.cells #[.slice A2 x.f0.length c2, .int .i64 (f : Int), .int .i64 (t : Int), .int .i64 x.f3, .int .i64 x.f4] 79) = W3 at k2 HS1 HB1 ⊢
   have y0 := zK k2 0
   have y1 := zK k2 1
   have y2 := zK k2 2
   have y3 := zK k2 3
   have y4 := zK k2 4
   simp at y0 y1 y2 y3 y4
   clear k2 HS HB
   go_wp2_with (first | (go_at_call 84; go_loud ((with_reducible refine (tell_calls w _ gl cl l0_4.length L (fun _ => True) A2 c2 x.f0 f t x.f3 x.f4 ?t1 ?t2 ?t3 ?t4 ?t5 ft t63 ?t6 hm).mono ?_); (case t1 => exact HS1.out); (case t2 => exact HB1.out); (case t3 => exact HRX.out); (case t4 => exact HCX.out); (case t5 => exact H64.out); (case t6 => exact HCS.out)); rintro e w' ⟨b, L2, rfl, hs_, hb_, h64_, ht_⟩; have HS2 := zA hs_; have HB2 := zA hb_; have H642 := zA h64_; have HT := zA ht_; clear hs_ hb_ h64_ ht_; cases b))
   ·have HE := zA (show ([], false) = (r1, r2) by rw [← HTR.out, HT.out]; rfl)
    clear HTR HT
    go_wp2
    go_ret2
    obtain ⟨rfl, rfl⟩ := Prod.mk.inj HE.out
    exact ⟨_, rfl, Kd.S_nil _ _ _ _ _, by repeat (first | exact HB2.out | apply zB | apply below_drew)⟩
   ·have HG := zA (show leftRes (leftGo (l1.drop (i + 1)) L2) = (r1, r2) by rw [← HTR.out, HT.out]; rfl)
    clear HTR HT
    go_wp2
    go_roundw
    case rel => exact ⟨i + 1, L2, by go_num, by omega, ⟨by repeat (first | exact HS2.out | apply zZ | apply yA)⟩, ⟨by repeat (first | exact HB2.out | apply zB | apply below_drew)⟩, H642, HG⟩
    case measure => simp [intOf]; omega
 ·have e : leftM l0_4.length l1 = none := by
   unfold leftM
   rw [if_neg]
   intro hq
   have h1 := HALL.out
   rw [List.any_eq_true] at h1
   obtain ⟨x, hx1, hx2⟩ := h1
   have h2 := List.all_eq_true.1 hq.2 x hx1
   rw [h2] at hx2
   cases hx2
  have HE := zA (show ([], false) = (r1, r2) by rw [← HM.out, e]; rfl)
  clear e HM
  go_wp2_with (first | (go_at_call 80; go_loud ((with_reducible refine (cont_ScanP _ _ (fun x => x.f0.length ≤ 2000000) (fun x => !scanOkM l0_4.length x) _ _ l1 _ ?sp HX.out ?sr HC1.out (by omega)).mono ?_); (case sp => exact left_lit a0_0 a0_1 a0_2 a0_3 A0_4 c0_4 l0_4 _ w.heap.size HF.out K1.out (Kd.C_below HR0.out HB.out) HC0.out); (case sr => exact Kd.C_below HR1.out HB.out)); rintro e w' ⟨rfl, hb_⟩; have HBb := zA (Below.trans HB.out (Below.mono hb_ HB.out.size)); rw [HALL.out]; clear hb_))
  go_ret2
  obtain ⟨rfl, rfl⟩ := Prod.mk.inj HE.out
  exact ⟨_, rfl, Kd.S_nil _ _ _ _ _, by repeat (first | exact HBb.out | apply zB | apply below_drew)⟩
theorem impl_leftOf.calls (a0_0 a0_1 a0_2 a0_3 : Int) (A0_4 : Option Addr) (c0_4 : Nat) (l0_4 : List S53) (A1 : Option Addr) (c1 : Nat) (l1 : List S79) (r1 : List (List Int)) (r2 : Bool) (w : World) (hr0_4 : Kd.C k53 w A0_4 l0_4.length l0_4) (hc0_4 : l0_4.length ≤ c0_4) (hr1 : Kd.C k79 w A1 l1.length l1) (hc1 : l1.length ≤ c1) (h : impl_leftOf.f a0_0 a0_1 a0_2 a0_3 l0_4 l1 = some (r1, r2)) :
  Calls Tryz.prog 70 #[.agg #[.int .i64 a0_0, .int .i64 a0_1, .int .i64 a0_2, .int .i64 a0_3, .slice A0_4 l0_4.length c0_4], .slice A1 l1.length c1] w fun e w' => ∃ v0_ : Value, e = .returned (.tuple #[v0_, .bool r2]) ∧ Kd.S (Kd.slice 3 (Kd.int .i64)) 66 w' w.heap.size (fun _ => True) v0_ r1 ∧ Below w.heap.size w w' := by
 unfold impl_leftOf.f at h
 split at h
 ·rename_i hh
  exact leftOf_calls a0_0 a0_1 a0_2 a0_3 A0_4 c0_4 l0_4 A1 c1 l1 r1 r2 w hr0_4 hc0_4 hr1 hc1 hh.1 hh.2.1 hh.2.2 (Option.some.inj h)
 ·cases h
end Go.Proofs.YtilimpjcdeeaiaaGreat.G


namespace Go.Proofs.YtilimpjcdeeaiaaGreat.G
open Go.RowKit Go.Proofs.YtilimpjcdeeaiaaGreatW.PrintWords Go.Proofs.YtilimpjcdeeaiaaGreatW.PrintLast Go.Proofs.YtilimpjcdeeaiaaGreatW.PrintMore
attribute [local go_sem] max2_int min2_int max_two min_two max_three min_three max_four min_four   -- for this text's walks alone
def RowP (w : World) (fn : Nat) (caps : Array Value) (D : List Int → Prop) (P : List Int → Bool) : Prop :=
 (∀ (args : Array Value) (W1 : World), Sem.run Tryz.prog (callFunc fn args) W1 = Result.ok (Next.enter fn args) W1) ∧
 ∀ (A1 : Option Addr) (c1 : Nat) (x : List Int) (W1 : World), Below w.heap.size w W1 → D x → Kd.C (Kd.int .i64) W1 A1 x.length x → x.length ≤ c1 → Calls Tryz.prog fn (#[.slice A1 x.length c1] ++ caps) W1 fun e w' => e = .returned (.bool (P x)) ∧ Below W1.heap.size W1 w'
theorem RowP.at_ {w W : World} {fn : Nat} {caps : Array Value} {D : List Int → Prop} {P : List Int → Bool} (h : RowP w fn caps D P) (hb : Below w.heap.size w W) : RowP W fn caps D P :=
 ⟨h.1, fun _ _ x W1 hW => h.2 _ _ x W1 (Below.trans hb (Below.mono hW hb.size))⟩
set_option maxRecDepth 100000 in
set_option maxHeartbeats 4000000 in
theorem idx_RowP (fn : Nat) (caps : Array Value) (D : List Int → Prop) (P : List Int → Bool) (A0 : Option Addr) (c0 : Nat) (l0 : List (List Int)) (w : World) (hS : RowP w fn caps D P) (hD : ∀ x ∈ l0, D x) (hr0 : Kd.C (Kd.slice 3 (Kd.int .i64)) w A0 l0.length l0) (hc0 : l0.length ≤ c0) (hm : l0.length ≤ 100000000) :
  Calls Tryz.prog 64 #[.slice A0 l0.length c0, .func (.func fn) #[] caps] w fun e w' => ∃ r : Int, e = .returned (.int .i64 r) ∧ (0 ≤ r ↔ l0.any P = true) ∧ Below w.heap.size w w' := by
 have HR0 := zA hr0
 have HC0 := zA hc0
 have HS := zA hS
 have HD := zA hD
 clear hr0 hc0 hS hD
 have HB0 := zA (Below.refl w.heap.size w)
 go_enter Tryz.func64, Tryz.ntmps64
 go_wp2
 go_loopw [8] (fun i w' => ∃ k : Nat, i = .int .i64 k ∧ k ≤ l0.length ∧ Aside0 ((l0.take k).any P = false) ∧ Aside0 (Below w.heap.size w w')) (fun i w' => l0.length - (intOf i).toNat)
 case atStart => exact ⟨0, rfl, by omega, ⟨by simp⟩, by first | exact HB0 | exact ⟨by repeat (first | exact HB0.out | apply zB | apply below_drew)⟩⟩
 case round =>
  clear HB0
  obtain ⟨k, rfl, hk, HA, HB⟩ := hrel
  by_cases hlt : k < l0.length
  ·obtain ⟨ad, A1, c1, e1, hx0, hl, hi⟩ := at_L2 (Kd.C_below HR0.out HB.out) (k : Int) (by omega) (by omega)
   cases e1
   rw [Int.toNat_natCast] at hx0
   have HR1 := zA hi; have HC1 := zA hl; clear hi hl
   have hgl : rd_L2 l0 k = l0[k] := by simp [rd_L2, hlt]
   cases hp : P (rd_L2 l0 k)
   all_goals
    have HP := zA hp
    have HG := zA hgl
    clear hp hgl
    go_wp2_with fail
    rw [HS.out.1]
    simp only [Oper.upon_enter]
    have HBW := zA (show Below w.heap.size w _ from by first | exact HB.out | (repeat (first | exact HB.out | apply zB | apply below_drew)))
    refine (HS.out.2 A1 c1 (rd_L2 l0 k) wr HB.out (by rw [HG.out]; exact HD.out _ (List.getElem_mem _)) HR1.out HC1.out).mono ?_
    rw [HP.out]
    rintro e w' ⟨rfl, hb2⟩
    have HB2 := zA (Below.trans HB.out (Below.mono hb2 HB.out.size))
    clear hb2
   ·go_wp2
    go_roundw
    case rel => exact ⟨k + 1, by go_num, by omega, ⟨by rw [List.take_succ_eq_append_getElem hlt, List.any_append, HA.out]; simp [← HG.out, HP.out]⟩, by first | exact HB2 | exact ⟨by repeat (first | exact HB2.out | apply zB | apply below_drew)⟩⟩
    case measure => simp [intOf]; omega
   ·go_wp2
    go_ret
    exact ⟨_, rfl, by simp only [Int.natCast_nonneg, true_iff]; rw [List.any_eq_true]; exact ⟨l0[k], List.getElem_mem _, by rw [← HG.out, HP.out]⟩, by repeat (first | exact HB2.out | apply zB | apply below_drew)⟩
  ·obtain rfl : k = l0.length := by omega
   go_wp2
   go_ret
   exact ⟨_, rfl, by have := HA.out; rw [List.take_length] at this; simp [this], by repeat (first | exact HB.out | apply zB | apply below_drew)⟩
set_option maxRecDepth 100000 in
set_option maxHeartbeats 4000000 in
theorem cont_RowP (fn : Nat) (caps : Array Value) (D : List Int → Prop) (P : List Int → Bool) (A0 : Option Addr) (c0 : Nat) (l0 : List (List Int)) (w : World) (hS : RowP w fn caps D P) (hD : ∀ x ∈ l0, D x) (hr0 : Kd.C (Kd.slice 3 (Kd.int .i64)) w A0 l0.length l0) (hc0 : l0.length ≤ c0) (hm : l0.length ≤ 100000000) :
  Calls Tryz.prog 45 #[.slice A0 l0.length c0, .func (.func fn) #[] caps] w fun e w' => e = .returned (.bool (l0.any P)) ∧ Below w.heap.size w w' := by
 have HR0 := zA hr0
 have HC0 := zA hc0
 have HS := zA hS
 have HD := zA hD
 clear hr0 hc0 hS hD
 cases ha : l0.any P
 all_goals
  have HAA := zA ha
  clear ha
  go_enter Tryz.func45, Tryz.ntmps45
  go_wp2_with (first | (go_at_call 64; (with_reducible refine (idx_RowP fn caps D P _ _ l0 _ HS.out HD.out ?side1 ?side2 hm).mono ?_); (case side1 => exact HR0.out); (case side2 => exact HC0.out); rintro e w' ⟨r, rfl, hq, hb⟩; have HB := zA hb; clear hb; rw [HAA.out] at hq; (first | have hq2 : 0 ≤ r := hq.2 rfl | have hq2 : ¬ 0 ≤ r := fun z => absurd (hq.1 z) (by decide)); clear hq))
  go_ret
  exact ⟨by simp [hq2], by repeat (first | exact HB.out | apply zB | apply below_drew)⟩
end Go.Proofs.YtilimpjcdeeaiaaGreat.G


namespace Go.Proofs.YtilimpjcdeeaiaaGreat.G
open Go.RowKit Go.Proofs.YtilimpjcdeeaiaaGreatW.PrintWords Go.Proofs.YtilimpjcdeeaiaaGreatW.PrintLast Go.Proofs.YtilimpjcdeeaiaaGreatW.PrintMore
attribute [local go_sem] max2_int min2_int max_two min_two max_three min_three max_four min_four   -- for this text's walks alone
/-- all is told -/
def wholeM (l : List (List Int)) : Bool := l.all (allW 0 0)
def impl_isWhole.f (l0 : List (List Int)) : Option Bool := if l0.length ≤ 100000000 ∧ ∀ x ∈ l0, x.length ≤ 100000000 then some (wholeM l0) else none
set_option maxRecDepth 100000 in
set_option maxHeartbeats 4000000 in
theorem whole_lit (w : World) : RowP w 85 #[] (fun x => x.length ≤ 100000000) (fun x => !allW 0 0 x) := by
 refine ⟨fun args W => by go_simp, fun A1 c1 x W1 hb hd h1 h2 => ?_⟩
 obtain ⟨k, hk⟩ := impl_allWithin.ev 0 0 x (by omega)
 have HR := zA h1
 have HC := zA h2
 have HK := zA hk
 clear hb hd h1 h2 hk
 show Calls Tryz.prog 85 #[.slice A1 x.length c1] W1 _
 go_enter Tryz.func85, Tryz.ntmps85
 go_wp2_with (first | (go_at_call 65; (with_reducible refine (impl_allWithin.calls k _ _ x 0 0 _ _ ?side1 ?side2 HK.out).mono ?_); (case side1 => exact HR.out); (case side2 => exact HC.out); rintro e w' ⟨rfl, ⟨nd, rfl⟩⟩))
 go_ret
 exact ⟨rfl, by repeat (first | exact Below.refl _ _ | apply zB | apply below_drew)⟩
set_option maxRecDepth 100000 in
set_option maxHeartbeats 4000000 in
theorem impl_isWhole.calls (A0 : Option Addr) (c0 : Nat) (l0 : List (List Int)) (r : Bool) (w : World) (hr0 : Kd.C (Kd.slice 3 (Kd.int .i64)) w A0 l0.length l0) (hc0 : l0.length ≤ c0) (h : impl_isWhole.f l0 = some r) :
  Calls Tryz.prog 71 #[.slice A0 l0.length c0] w fun e w' => e = .returned (.bool r) ∧ Below w.heap.size w w' := by
 unfold impl_isWhole.f at h
 split at h
 ·rename_i hl
  obtain ⟨hl, hx⟩ := hl
  have e0 : (!l0.any fun x => !allW 0 0 x) = wholeM l0 := by
   unfold wholeM
   rw [List.not_any_eq_all_not]
   simp only [Bool.not_not]
  have HE := zA (e0.trans (Option.some.inj h))
  have HR := zA hr0
  have HC := zA hc0
  have HX := zA hx
  clear h hr0 hc0 hx e0
  go_enter Tryz.func71, Tryz.ntmps71
  go_wp2_with (first | (go_at_call 45; (with_reducible refine (cont_RowP _ _ (fun x => x.length ≤ 100000000) (fun x => !allW 0 0 x) _ _ l0 _ (whole_lit _) HX.out ?side1 ?side2 hl).mono ?_); (case side1 => exact HR.out); (case side2 => exact HC.out); rintro e w' ⟨rfl, hb_⟩; have HB := zA hb_; clear hb_))
  go_ret
  exact ⟨by rw [← HE.out]; rfl, by repeat (first | exact HB.out | apply zB | apply below_drew)⟩
 ·cases h
end Go.Proofs.YtilimpjcdeeaiaaGreat.G


namespace Go.Proofs.YtilimpjcdeeaiaaGreat.G
open Go.RowKit Go.Proofs.YtilimpjcdeeaiaaGreatW.PrintWords Go.Proofs.YtilimpjcdeeaiaaGreatW.PrintLast Go.Proofs.YtilimpjcdeeaiaaGreatW.PrintMore
attribute [local go_sem] max2_int min2_int max_two min_two max_three min_three max_four min_four   -- for this text's walks alone
def impl_ScriptOk.f (a0_0 : Int) (a0_1 : Int) (a0_2 : Int) (a0_3 : Int) (l0_4 : List (S53)) (l1 : List (S79)) : Option (Bool) := (impl_FrameOk.f a0_0 a0_1 a0_2 a0_3 l0_4).bind fun t385 => (if t385 = true then ((impl_leftOf.f a0_0 a0_1 a0_2 a0_3 l0_4 l1).bind fun bt386 => (if bt386.2 = true then ((impl_isWhole.f bt386.1).bind fun t390 => (some t390)) else (some false))) else (some false))
set_option maxHeartbeats 8000000 in
set_option maxRecDepth 100000 in
theorem impl_ScriptOk.calls (a0_0 : Int) (a0_1 : Int) (a0_2 : Int) (a0_3 : Int) (A0_4 : Option Addr) (c0_4 : Nat) (l0_4 : List (S53)) (A1 : Option Addr) (c1 : Nat) (l1 : List (S79)) (r : Bool) (w : World) (hr0_4 : Kd.C k53 w A0_4 l0_4.length l0_4) (hc0_4 : l0_4.length ≤ c0_4) (hr1 : Kd.C k79 w A1 l1.length l1) (hc1 : l1.length ≤ c1) (h : impl_ScriptOk.f a0_0 a0_1 a0_2 a0_3 l0_4 l1 = some r) :
  Calls Tryz.prog 50 #[.agg #[.int .i64 a0_0, .int .i64 a0_1, .int .i64 a0_2, .int .i64 a0_3, .slice A0_4 l0_4.length c0_4], .slice A1 l1.length c1] w fun e w' => e = .returned (.bool r) ∧ Below w.heap.size w w' := by
 have hu37 := Tryz.underlying37
 have HR0_4 := zA hr0_4
 have HC0_4 := zA hc0_4
 clear hr0_4 hc0_4
 have HR1 := zA hr1
 have HC1 := zA hc1
 clear hr1 hc1
 have HB := zA (Below.refl w.heap.size w)
 have H : ((impl_FrameOk.f a0_0 a0_1 a0_2 a0_3 l0_4).bind fun t385 => (if t385 = true then ((impl_leftOf.f a0_0 a0_1 a0_2 a0_3 l0_4 l1).bind fun bt386 => (if bt386.2 = true then ((impl_isWhole.f bt386.1).bind fun t390 => (some t390)) else (some false))) else (some false))) = some r := h
 clear h
 replace H := Option.bind_eq_some_iff.mp H
 obtain ⟨t385, A30, H⟩ := H
 try dsimp only at H
 have A3 := zA A30
 clear A30
 have HF4 := zA H
 clear H
 go_enter Tryz.func50, Tryz.ntmps50
 go_upto_if 9 with (first | ((with_reducible refine gate_dst (N := 2) rfl ?_); refine nxX (N := 2) (cs := #[.int .i64 a0_0, .int .i64 a0_1, .int .i64 a0_2, .int .i64 a0_3, .slice A0_4 l0_4.length c0_4]) (t := 37) ?_; intro gb384 hg w5 hbox hb; have BK384 := zA (hbox); have GE384 := nxG HB hg; replace HB := nxH hb HB; clear hb hbox hg; obtain ⟨hcz6_0, hcz6_1, hcz6_2, hcz6_3, hcz6_4⟩ := cz5 BK384) | ((with_reducible refine gate_callee (f := 66) rfl ?_); refine goesL_ (some 8) rfl rfl Tryz.func66 (by kernel_rfl) rfl #[.agg #[.int .i64 a0_0, .int .i64 a0_1, .int .i64 a0_2, .int .i64 a0_3, .slice A0_4 l0_4.length c0_4]] rfl (by (try simp only [zU, zV, zW]); first | done | rfl | (simp only [zR, zQ]; rfl)) ?_; (with_reducible refine (impl_FrameOk.calls a0_0 a0_1 a0_2 a0_3 _ _ l0_4 t385 _ ?side1 ?side2 A3.out).mono ?_); (case side1 => exact nxC HR0_4 HB); (case side2 => exact HC0_4.out); rintro e w7 ⟨rfl, hb⟩; refine ⟨_, rfl, ?_⟩; replace BK384 := nxB hb BK384; replace HB := nxH hb HB; (try clear hb); (try clear hb2); (try clear hk); (try clear hi)))
 have H := HF4.out
 clear HF4
 by_cases c8 : t385 = true
 rotate_left
 ·replace c8 := Bool.eq_false_iff.mpr c8
  subst c8
  rw [if_neg (show ¬ (false = true) by decide)] at H
  obtain rfl := Option.some.inj H
  go_wp2
  go_ret
  exact ⟨rfl, nxD HB⟩
 subst c8
 rw [if_pos rfl] at H
 replace H := Option.bind_eq_some_iff.mp H
 obtain ⟨⟨t386, t389⟩, A90, H⟩ := H
 try dsimp only at H
 have A9 := zA A90
 clear A90
 by_cases c10 : t389 = true
 rotate_left
 ·replace c10 := Bool.eq_false_iff.mpr c10
  subst c10
  rw [if_neg (show ¬ (false = true) by decide)] at H
  obtain rfl := Option.some.inj H
  obtain ⟨hcz16_0, hcz16_1, hcz16_2, hcz16_3, hcz16_4⟩ := cz5 BK384
  go_wp2_with (first | ((with_reducible refine gate_callee (f := 70) rfl ?_); refine goesL_ (some 13) rfl rfl Tryz.func70 (by kernel_rfl) rfl #[.agg #[.int .i64 a0_0, .int .i64 a0_1, .int .i64 a0_2, .int .i64 a0_3, .slice A0_4 l0_4.length c0_4], .slice A1 l1.length c1] rfl (by (try simp only [zU, zV, zW]); first | done | rfl | (simp only [zR, zQ]; rfl)) ?_; (with_reducible refine (impl_leftOf.calls a0_0 a0_1 a0_2 a0_3 _ _ l0_4 _ _ l1 t386 false _ ?side1 ?side2 ?side3 ?side4 A9.out).mono ?_); (case side1 => exact nxC HR0_4 HB); (case side2 => exact HC0_4.out); (case side3 => exact nxC HR1 HB); (case side4 => exact HC1.out); rintro e w17 ⟨v387, rfl, ho0, hb⟩; refine ⟨_, rfl, ?_⟩; have n0_ := zA (Kd.S_lower ho0 (zL (by repeat (first | (with_reducible first | exact HB.out | apply zC | apply zB | apply zF | refine zE ?_ GE384.out) | exact HB.out)))); have n1_ := nxB hb BK384; have n2_ := nxH hb HB; clear BK384; clear HB; have HO388 := n0_; have BK384 := n1_; have HB := n2_; clear n0_ n1_ n2_; (try clear hb); (try clear hb2); (try clear hk); (try clear hi); (try clear ho0)))
  go_ret
  exact ⟨rfl, nxD HB⟩
 subst c10
 rw [if_pos rfl] at H
 replace H := Option.bind_eq_some_iff.mp H
 obtain ⟨t390, A110, H⟩ := H
 try dsimp only at H
 have A11 := zA A110
 clear A110
 obtain rfl := Option.some.inj H
 obtain ⟨hcz12_0, hcz12_1, hcz12_2, hcz12_3, hcz12_4⟩ := cz5 BK384
 go_wp2_with (first | ((with_reducible refine gate_callee (f := 70) rfl ?_); refine goesL_ (some 13) rfl rfl Tryz.func70 (by kernel_rfl) rfl #[.agg #[.int .i64 a0_0, .int .i64 a0_1, .int .i64 a0_2, .int .i64 a0_3, .slice A0_4 l0_4.length c0_4], .slice A1 l1.length c1] rfl (by (try simp only [zU, zV, zW]); first | done | rfl | (simp only [zR, zQ]; rfl)) ?_; (with_reducible refine (impl_leftOf.calls a0_0 a0_1 a0_2 a0_3 _ _ l0_4 _ _ l1 t386 true _ ?side1 ?side2 ?side3 ?side4 A9.out).mono ?_); (case side1 => exact nxC HR0_4 HB); (case side2 => exact HC0_4.out); (case side3 => exact nxC HR1 HB); (case side4 => exact HC1.out); rintro e w13 ⟨v387, rfl, ho0, hb⟩; refine ⟨_, rfl, ?_⟩; have n0_ := zA (Kd.S_lower ho0 (zL (by repeat (first | (with_reducible first | exact HB.out | apply zC | apply zB | apply zF | refine zE ?_ GE384.out) | exact HB.out)))); have n1_ := nxB hb BK384; have n2_ := nxH hb HB; clear BK384; clear HB; have HO388 := n0_; have BK384 := n1_; have HB := n2_; clear n0_ n1_ n2_; (try clear hb); (try clear hb2); (try clear hk); (try clear hi); (try clear ho0); obtain ⟨Ao14, co14, eo14⟩ := Kd.S_slice HO388.out; subst eo14) | (go_at_call 71; (with_reducible refine (impl_isWhole.calls _ _ t386 t390 _ ?side1 ?side2 A11.out).mono ?_); (case side1 => exact (Kd.S_reads' HO388.out).2.2); (case side2 => exact (Kd.S_reads' HO388.out).2.1); rintro e w15 ⟨rfl, hb⟩; replace HO388 := nxS hb HO388; replace BK384 := nxB hb BK384; replace HB := nxH hb HB; (try clear hb); (try clear hb2); (try clear hk); (try clear hi)))
 go_ret
 exact ⟨rfl, nxD HB⟩
theorem impl_ScriptOk.val (p w h r : Int) (l : List SC) (script : List SN) (hm : script.length ≤ 2000000) (hsl : ∀ s ∈ script, s.f0.length ≤ 2000000) : impl_ScriptOk.f p w h r l script = some (scriptOkM p w h r l script) := by
 unfold impl_ScriptOk.f scriptOkM
 rw [show impl_FrameOk.f p w h r l = some (frameOkM p w h r l) from rfl, zS]
 by_cases hF : frameOkM p w h r l = true
 rotate_left
 ·rw [if_neg hF, Bool.eq_false_iff.2 hF, Bool.false_and]
 rw [if_pos hF, hF, Bool.true_and]
 have hl := frameOk_len hF
 have e : impl_leftOf.f p w h r l script = some (leftRes (leftM l.length script)) := by unfold impl_leftOf.f; rw [if_pos ⟨hF, hm, hsl⟩]
 rw [e, zS]
 cases hL : leftM l.length script with
 | none => rfl
 | some L =>
  have h64 := leftM_rows hL
  have h1 := h64.1
  show (if true = true then (impl_isWhole.f L).bind fun t390 => some t390 else some false) = some (L.all (allW 0 0))
  rw [if_pos rfl]
  have e2 : impl_isWhole.f L = some (wholeM L) := by
   unfold impl_isWhole.f
   rw [if_pos ⟨by omega, fun x hx => by have := h64.2 x hx; omega⟩]
  rw [e2]; rfl
end Go.Proofs.YtilimpjcdeeaiaaGreat.G


namespace Go.Proofs.YtilimpjcdeeaiaaGreat.G
open Go.RowKit Go.Proofs.YtilimpjcdeeaiaaGreatW.PrintWords Go.Proofs.YtilimpjcdeeaiaaGreatW.PrintLast Go.Proofs.YtilimpjcdeeaiaaGreatW.PrintMore
attribute [local go_sem] max2_int min2_int max_two min_two max_three min_three max_four min_four   -- for this text's walks alone
def impl_StreamOk.f (a0_0 a0_1 a0_2 a0_3 : Int) (l0_4 : List S53) (l0_5 : List (List Int)) (l0_6 : List (List (List Int))) (a0_7 : Int) (l0_8 : List S79) (l0_9 : List Int) : Option Bool :=
 if l0_5.length ≤ 100000000 ∧ l0_6.length ≤ 100000000 ∧ l0_8.length ≤ 2000000 ∧ (∀ s ∈ l0_8, s.f0.length ≤ 2000000) then some (streamOkM a0_0 a0_1 a0_2 a0_3 l0_4 l0_5 l0_6 a0_7 l0_8 l0_9) else none
theorem table_lit (w : World) : RowP w 46 #[] (fun _ => True) (fun q => !tabM q) := by
 refine ⟨fun args W => by go_simp, fun A1 c1 x W1 hb _ hr hc => ?_⟩
 obtain ⟨k, hk⟩ := (impl_TableOk.ev x).rounds
 show Calls Tryz.prog 46 #[.slice A1 x.length c1] W1 fun e w' => e = .returned (.bool (!tabM x)) ∧ Below W1.heap.size W1 w'
 generalize tabM x = b at hk ⊢
 have HR := zA hr
 have HC := zA hc
 have HK := zA hk
 clear hr hc hk hb
 cases b
 all_goals
  go_enter Tryz.func46, Tryz.ntmps46
  go_wp2_with (first | (go_at_call 47; (with_reducible refine (impl_TableOk.calls k A1 c1 x _ _ HR.out HC.out HK.out).mono ?_); rintro e w' ⟨rfl, ⟨nd, rfl⟩⟩))
  go_ret
  exact ⟨by first | rfl | simp, by repeat (first | exact Below.refl _ _ | apply zC | apply zB | apply below_drew)⟩
theorem cells5 {W : World} {g : Nat} {t : TypeId} {a b c d e : Value} (h : W.heap[g]? = some (.cells #[a, b, c, d, e] t (0, 0))) :
  (W.cell? ⟨g, 0, none⟩ = some a ∧ W.cell? ⟨g, 1, none⟩ = some b ∧ W.cell? ⟨g, 2, none⟩ = some c ∧ W.cell? ⟨g, 3, none⟩ = some d ∧ W.cell? ⟨g, 4, none⟩ = some e) :=
 ⟨zK h 0, zK h 1, zK h 2, zK h 3, zK h 4⟩
theorem cells10 {W : World} {g : Nat} {t : TypeId} {a b c d e a' b' c' d' e' : Value} (h : W.heap[g]? = some (.cells #[a, b, c, d, e, a', b', c', d', e'] t (0, 0))) :
  (W.cell? ⟨g, 0, none⟩ = some a ∧ W.cell? ⟨g, 1, none⟩ = some b ∧ W.cell? ⟨g, 2, none⟩ = some c ∧ W.cell? ⟨g, 3, none⟩ = some d ∧ W.cell? ⟨g, 4, none⟩ = some e) ∧
  (W.cell? ⟨g, 5, none⟩ = some a' ∧ W.cell? ⟨g, 6, none⟩ = some b' ∧ W.cell? ⟨g, 7, none⟩ = some c' ∧ W.cell? ⟨g, 8, none⟩ = some d' ∧ W.cell? ⟨g, 9, none⟩ = some e') :=
 ⟨⟨zK h 0, zK h 1, zK h 2, zK h 3, zK h 4⟩, ⟨zK h 5, zK h 6, zK h 7, zK h 8, zK h 9⟩⟩
set_option maxRecDepth 100000 in
set_option maxHeartbeats 4000000 in
theorem streamOk_calls (a0_0 a0_1 a0_2 a0_3 : Int) (A0_4 : Option Addr) (c0_4 : Nat) (l0_4 : List S53) (A0_5 : Option Addr) (c0_5 : Nat) (l0_5 : List (List Int)) (A0_6 : Option Addr) (c0_6 : Nat) (l0_6 : List (List (List Int))) (a0_7 : Int) (A0_8 : Option Addr) (c0_8 : Nat) (l0_8 : List S79) (A0_9 : Option Addr) (c0_9 : Nat) (l0_9 : List Int) (w : World)
  (hr0_4 : Kd.C k53 w A0_4 l0_4.length l0_4) (hc0_4 : l0_4.length ≤ c0_4) (hr0_5 : Kd.C (Kd.slice 3 (Kd.int .i64)) w A0_5 l0_5.length l0_5) (hc0_5 : l0_5.length ≤ c0_5) (hr0_6 : Kd.C (Kd.slice 66 (Kd.slice 3 (Kd.int .i64))) w A0_6 l0_6.length l0_6) (hc0_6 : l0_6.length ≤ c0_6) (hr0_8 : Kd.C k79 w A0_8 l0_8.length l0_8) (hc0_8 : l0_8.length ≤ c0_8)
  (g1 : l0_5.length ≤ 100000000) (g2 : l0_6.length ≤ 100000000) (g3 : l0_8.length ≤ 2000000) (g4 : ∀ s ∈ l0_8, s.f0.length ≤ 2000000) :
  Calls Tryz.prog 22 #[.agg #[.int .i64 a0_0, .int .i64 a0_1, .int .i64 a0_2, .int .i64 a0_3, .slice A0_4 l0_4.length c0_4, .slice A0_5 l0_5.length c0_5, .slice A0_6 l0_6.length c0_6, .int .i64 a0_7, .slice A0_8 l0_8.length c0_8, .slice A0_9 l0_9.length c0_9]] w fun e w' => e = .returned (.bool (streamOkM a0_0 a0_1 a0_2 a0_3 l0_4 l0_5 l0_6 a0_7 l0_8 l0_9)) ∧ Below w.heap.size w w' := by
 have hu41 := Tryz.underlying41
 have hu37 := Tryz.underlying37
 have hu38 := Tryz.underlying38
 have HR4 := zA hr0_4
 have HC4 := zA hc0_4
 have HR5 := zA hr0_5
 have HC5 := zA hc0_5
 have HR6 := zA hr0_6
 have HC6 := zA hc0_6
 have HR8 := zA hr0_8
 have HC8 := zA hc0_8
 have G1 := zA g1
 obtain ⟨kc, hkc⟩ := (impl_CoefsOk.ev a0_0 a0_1 a0_2 a0_3 l0_4 l0_6 g2).rounds
 have HKS := zA (impl_ScriptOk.val a0_0 a0_1 a0_2 a0_3 l0_4 l0_8 g3 g4)
 have HKC := zA hkc
 have HKW := zA (impl_within.val a0_7 0 1)
 clear hr0_4 hc0_4 hr0_5 hc0_5 hr0_6 hc0_6 hr0_8 hc0_8 g1 g2 g3 g4 hkc
 have HM := zA (show streamOkM a0_0 a0_1 a0_2 a0_3 l0_4 l0_5 l0_6 a0_7 l0_8 l0_9 = ((decide (l0_5.length = 4) && !l0_5.any fun q => !tabM q) && (coefsOkM a0_0 a0_1 a0_2 a0_3 l0_4 l0_6 && ((decide (0 ≤ a0_7) && decide (a0_7 ≤ 1)) && (scriptOkM a0_0 a0_1 a0_2 a0_3 l0_4 l0_8 && decide (l0_9.length ≤ 1000))))) by
  unfold streamOkM
  rw [List.not_any_eq_all_not]
  simp only [Bool.not_not])
 generalize streamOkM a0_0 a0_1 a0_2 a0_3 l0_4 l0_5 l0_6 a0_7 l0_8 l0_9 = r at HM ⊢
 have HB := zA (Below.refl w.heap.size w)
 go_enter Tryz.func22, Tryz.ntmps22
 go_upto_region 1 with (first | ((with_reducible refine gate_dst (N := 1) rfl ?_); refine nxX (N := 1) (cs := #[.int .i64 a0_0, .int .i64 a0_1, .int .i64 a0_2, .int .i64 a0_3, .slice A0_4 l0_4.length c0_4, .slice A0_5 l0_5.length c0_5, .slice A0_6 l0_6.length c0_6, .int .i64 a0_7, .slice A0_8 l0_8.length c0_8, .slice A0_9 l0_9.length c0_9]) (t := 41) ?_; intro gb hg w3 hbox hb; have n0_ := zA (below_step HB.out hb); have BK := zA hbox; clear HB; have HB := n0_; clear n0_ hb hg hbox))
 (try simp only [Act.put, List.setIfInBounds_toArray, List.set_cons_zero, List.set_cons_succ])
 obtain ⟨⟨p0, p1, p2, p3, p4⟩, p5, p6, p7, p8, p9⟩ := cells10 BK.out
 by_cases h4 : l0_5.length = 4
 ·have b4 : ((l0_5.length : Int) != 4) = false := bne_eq_false_iff_eq.mpr (by omega)
  rw [show decide (l0_5.length = 4) = true from zT h4, Bool.true_and] at HM
  clear h4
  cases ha : l0_5.any (fun q => !tabM q)
  ·rw [ha, Bool.not_false, Bool.true_and] at HM
   have HA := zA ha
   clear ha
   cases hc : coefsOkM a0_0 a0_1 a0_2 a0_3 l0_4 l0_6
   ·rw [hc] at HM HKC
    clear hc
    go_wp2_with (first | (go_at_call 45; go_loud ((with_reducible refine (cont_RowP _ _ (fun _ => True) (fun q => !tabM q) _ _ l0_5 _ (table_lit _) (fun _ _ => trivial) ?sr HC5.out G1.out).mono ?_); (case sr => exact Kd.C_below HR5.out (by repeat (first | exact HB.out | apply zB | apply below_drew)))); rintro e w5 ⟨rfl, hb⟩; rw [HA.out]; have n0_ := zA (blk_below (by (with_reducible repeat (first | refine zG ?_ _ | refine zH ?_ | refine zD ?_ _)); exact BK.out) hb); have n1_ := nxH hb HB; clear BK HB; have BK := n0_; have HB := n1_; clear n0_ n1_ hb; obtain ⟨⟨p0, p1, p2, p3, p4⟩, p5, p6, p7, p8, p9⟩ := cells10 BK.out) | (go_at_call 48; go_loud ((with_reducible refine (impl_CoefsOk.calls kc a0_0 a0_1 a0_2 a0_3 _ _ l0_4 _ _ l0_6 _ _ ?s1 HC4.out ?s3 HC6.out HKC.out).mono ?_); (case s1 => exact Kd.C_below HR4.out (by repeat (first | exact HB.out | apply zB | apply below_drew))); (case s3 => exact Kd.C_below HR6.out (by repeat (first | exact HB.out | apply zB | apply below_drew)))); rintro e w6 ⟨rfl, hb⟩; have n0_ := zA (blk_below (by (with_reducible repeat (first | refine zG ?_ _ | refine zH ?_ | refine zD ?_ _)); exact BK.out) hb); have n1_ := nxH hb HB; clear BK HB; have BK := n0_; have HB := n1_; clear n0_ n1_ hb; obtain ⟨⟨p0, p1, p2, p3, p4⟩, p5, p6, p7, p8, p9⟩ := cells10 BK.out))
    go_ret
    exact ⟨by rw [HM.out]; first | rfl | simp, (by repeat (first | exact HB.out | apply zB | apply below_drew))⟩
   ·rw [hc] at HM HKC
    clear hc
    cases hw : (decide (0 ≤ a0_7) && decide (a0_7 ≤ 1))
    ·rw [hw] at HM HKW
     clear hw
     go_wp2_with (first | (go_at_call 45; go_loud ((with_reducible refine (cont_RowP _ _ (fun _ => True) (fun q => !tabM q) _ _ l0_5 _ (table_lit _) (fun _ _ => trivial) ?sr HC5.out G1.out).mono ?_); (case sr => exact Kd.C_below HR5.out (by repeat (first | exact HB.out | apply zB | apply below_drew)))); rintro e w5 ⟨rfl, hb⟩; rw [HA.out]; have n0_ := zA (blk_below (by (with_reducible repeat (first | refine zG ?_ _ | refine zH ?_ | refine zD ?_ _)); exact BK.out) hb); have n1_ := nxH hb HB; clear BK HB; have BK := n0_; have HB := n1_; clear n0_ n1_ hb; obtain ⟨⟨p0, p1, p2, p3, p4⟩, p5, p6, p7, p8, p9⟩ := cells10 BK.out) | (go_at_call 48; go_loud ((with_reducible refine (impl_CoefsOk.calls kc a0_0 a0_1 a0_2 a0_3 _ _ l0_4 _ _ l0_6 _ _ ?s1 HC4.out ?s3 HC6.out HKC.out).mono ?_); (case s1 => exact Kd.C_below HR4.out (by repeat (first | exact HB.out | apply zB | apply below_drew))); (case s3 => exact Kd.C_below HR6.out (by repeat (first | exact HB.out | apply zB | apply below_drew)))); rintro e w6 ⟨rfl, hb⟩; have n0_ := zA (blk_below (by (with_reducible repeat (first | refine zG ?_ _ | refine zH ?_ | refine zD ?_ _)); exact BK.out) hb); have n1_ := nxH hb HB; clear BK HB; have BK := n0_; have HB := n1_; clear n0_ n1_ hb; obtain ⟨⟨p0, p1, p2, p3, p4⟩, p5, p6, p7, p8, p9⟩ := cells10 BK.out) | (go_at_call 49; (with_reducible refine (impl_within.calls _ _ _ _ _ HKW.out).mono ?_); rintro e w7 ⟨rfl, ⟨nd, rfl⟩⟩; have n0_ := zA (show _ from zG BK.out nd); obtain ⟨⟨p0, p1, p2, p3, p4⟩, p5, p6, p7, p8, p9⟩ := cells10 n0_.out; clear n0_))
     go_ret
     exact ⟨by rw [HM.out]; first | rfl | simp, (by repeat (first | exact HB.out | apply zB | apply below_drew))⟩
    ·rw [hw] at HM HKW
     clear hw
     cases hs : scriptOkM a0_0 a0_1 a0_2 a0_3 l0_4 l0_8
     ·rw [hs] at HM HKS
      clear hs
      go_wp2_with (first | (go_at_call 45; go_loud ((with_reducible refine (cont_RowP _ _ (fun _ => True) (fun q => !tabM q) _ _ l0_5 _ (table_lit _) (fun _ _ => trivial) ?sr HC5.out G1.out).mono ?_); (case sr => exact Kd.C_below HR5.out (by repeat (first | exact HB.out | apply zB | apply below_drew)))); rintro e w5 ⟨rfl, hb⟩; rw [HA.out]; have n0_ := zA (blk_below (by (with_reducible repeat (first | refine zG ?_ _ | refine zH ?_ | refine zD ?_ _)); exact BK.out) hb); have n1_ := nxH hb HB; clear BK HB; have BK := n0_; have HB := n1_; clear n0_ n1_ hb; obtain ⟨⟨p0, p1, p2, p3, p4⟩, p5, p6, p7, p8, p9⟩ := cells10 BK.out) | (go_at_call 48; go_loud ((with_reducible refine (impl_CoefsOk.calls kc a0_0 a0_1 a0_2 a0_3 _ _ l0_4 _ _ l0_6 _ _ ?s1 HC4.out ?s3 HC6.out HKC.out).mono ?_); (case s1 => exact Kd.C_below HR4.out (by repeat (first | exact HB.out | apply zB | apply below_drew))); (case s3 => exact Kd.C_below HR6.out (by repeat (first | exact HB.out | apply zB | apply below_drew)))); rintro e w6 ⟨rfl, hb⟩; have n0_ := zA (blk_below (by (with_reducible repeat (first | refine zG ?_ _ | refine zH ?_ | refine zD ?_ _)); exact BK.out) hb); have n1_ := nxH hb HB; clear BK HB; have BK := n0_; have HB := n1_; clear n0_ n1_ hb; obtain ⟨⟨p0, p1, p2, p3, p4⟩, p5, p6, p7, p8, p9⟩ := cells10 BK.out) | (go_at_call 49; (with_reducible refine (impl_within.calls _ _ _ _ _ HKW.out).mono ?_); rintro e w7 ⟨rfl, ⟨nd, rfl⟩⟩; have n0_ := zA (show _ from zG BK.out nd); obtain ⟨⟨p0, p1, p2, p3, p4⟩, p5, p6, p7, p8, p9⟩ := cells10 n0_.out; clear n0_) | (go_at_call 50; go_loud ((with_reducible refine (impl_ScriptOk.calls a0_0 a0_1 a0_2 a0_3 _ _ l0_4 _ _ l0_8 _ _ ?s1 HC4.out ?s3 HC8.out HKS.out).mono ?_); (case s1 => exact Kd.C_below HR4.out (by repeat (first | exact HB.out | apply zB | apply below_drew))); (case s3 => exact Kd.C_below HR8.out (by repeat (first | exact HB.out | apply zB | apply below_drew)))); rintro e w8 ⟨rfl, hb⟩; have n0_ := zA (blk_below (by (with_reducible repeat (first | refine zG ?_ _ | refine zH ?_ | refine zD ?_ _)); exact BK.out) hb); have n1_ := nxH hb HB; clear BK HB; have BK := n0_; have HB := n1_; clear n0_ n1_ hb; obtain ⟨⟨p0, p1, p2, p3, p4⟩, p5, p6, p7, p8, p9⟩ := cells10 BK.out))
      go_ret
      exact ⟨by rw [HM.out]; first | rfl | simp, (by repeat (first | exact HB.out | apply zB | apply below_drew))⟩
     ·rw [hs] at HM HKS
      clear hs
      go_wp2_with (first | (go_at_call 45; go_loud ((with_reducible refine (cont_RowP _ _ (fun _ => True) (fun q => !tabM q) _ _ l0_5 _ (table_lit _) (fun _ _ => trivial) ?sr HC5.out G1.out).mono ?_); (case sr => exact Kd.C_below HR5.out (by repeat (first | exact HB.out | apply zB | apply below_drew)))); rintro e w5 ⟨rfl, hb⟩; rw [HA.out]; have n0_ := zA (blk_below (by (with_reducible repeat (first | refine zG ?_ _ | refine zH ?_ | refine zD ?_ _)); exact BK.out) hb); have n1_ := nxH hb HB; clear BK HB; have BK := n0_; have HB := n1_; clear n0_ n1_ hb; obtain ⟨⟨p0, p1, p2, p3, p4⟩, p5, p6, p7, p8, p9⟩ := cells10 BK.out) | (go_at_call 48; go_loud ((with_reducible refine (impl_CoefsOk.calls kc a0_0 a0_1 a0_2 a0_3 _ _ l0_4 _ _ l0_6 _ _ ?s1 HC4.out ?s3 HC6.out HKC.out).mono ?_); (case s1 => exact Kd.C_below HR4.out (by repeat (first | exact HB.out | apply zB | apply below_drew))); (case s3 => exact Kd.C_below HR6.out (by repeat (first | exact HB.out | apply zB | apply below_drew)))); rintro e w6 ⟨rfl, hb⟩; have n0_ := zA (blk_below (by (with_reducible repeat (first | refine zG ?_ _ | refine zH ?_ | refine zD ?_ _)); exact BK.out) hb); have n1_ := nxH hb HB; clear BK HB; have BK := n0_; have HB := n1_; clear n0_ n1_ hb; obtain ⟨⟨p0, p1, p2, p3, p4⟩, p5, p6, p7, p8, p9⟩ := cells10 BK.out) | (go_at_call 49; (with_reducible refine (impl_within.calls _ _ _ _ _ HKW.out).mono ?_); rintro e w7 ⟨rfl, ⟨nd, rfl⟩⟩; have n0_ := zA (show _ from zG BK.out nd); obtain ⟨⟨p0, p1, p2, p3, p4⟩, p5, p6, p7, p8, p9⟩ := cells10 n0_.out; clear n0_) | (go_at_call 50; go_loud ((with_reducible refine (impl_ScriptOk.calls a0_0 a0_1 a0_2 a0_3 _ _ l0_4 _ _ l0_8 _ _ ?s1 HC4.out ?s3 HC8.out HKS.out).mono ?_); (case s1 => exact Kd.C_below HR4.out (by repeat (first | exact HB.out | apply zB | apply below_drew))); (case s3 => exact Kd.C_below HR8.out (by repeat (first | exact HB.out | apply zB | apply below_drew)))); rintro e w8 ⟨rfl, hb⟩; have n0_ := zA (blk_below (by (with_reducible repeat (first | refine zG ?_ _ | refine zH ?_ | refine zD ?_ _)); exact BK.out) hb); have n1_ := nxH hb HB; clear BK HB; have BK := n0_; have HB := n1_; clear n0_ n1_ hb; obtain ⟨⟨p0, p1, p2, p3, p4⟩, p5, p6, p7, p8, p9⟩ := cells10 BK.out))
      go_ret
      exact ⟨by rw [HM.out, show decide (l0_9.length ≤ 1000) = decide ((l0_9.length : Int) ≤ 1000) from decide_eq_decide.2 (by omega)]; rfl, (by repeat (first | exact HB.out | apply zB | apply below_drew))⟩
  ·rw [ha] at HM
   have HA := zA ha
   clear ha
   go_wp2_with (first | (go_at_call 45; go_loud ((with_reducible refine (cont_RowP _ _ (fun _ => True) (fun q => !tabM q) _ _ l0_5 _ (table_lit _) (fun _ _ => trivial) ?sr HC5.out G1.out).mono ?_); (case sr => exact Kd.C_below HR5.out (by repeat (first | exact HB.out | apply zB | apply below_drew)))); rintro e w5 ⟨rfl, hb⟩; rw [HA.out]; have n0_ := zA (blk_below (by (with_reducible repeat (first | refine zG ?_ _ | refine zH ?_ | refine zD ?_ _)); exact BK.out) hb); have n1_ := nxH hb HB; clear BK HB; have BK := n0_; have HB := n1_; clear n0_ n1_ hb; obtain ⟨⟨p0, p1, p2, p3, p4⟩, p5, p6, p7, p8, p9⟩ := cells10 BK.out))
   go_ret
   exact ⟨by rw [HM.out]; first | rfl | simp, (by repeat (first | exact HB.out | apply zB | apply below_drew))⟩
 ·have b4 : ((l0_5.length : Int) != 4) = true := bne_iff_ne.mpr (by omega)
  rw [show decide (l0_5.length = 4) = false from decide_eq_false h4] at HM
  go_wp2
  go_ret
  exact ⟨by rw [HM.out]; rfl, by repeat (first | exact HB.out | apply zB | apply below_drew)⟩
theorem impl_StreamOk.calls (a0_0 a0_1 a0_2 a0_3 : Int) (A0_4 : Option Addr) (c0_4 : Nat) (l0_4 : List S53) (A0_5 : Option Addr) (c0_5 : Nat) (l0_5 : List (List Int)) (A0_6 : Option Addr) (c0_6 : Nat) (l0_6 : List (List (List Int))) (a0_7 : Int) (A0_8 : Option Addr) (c0_8 : Nat) (l0_8 : List S79) (A0_9 : Option Addr) (c0_9 : Nat) (l0_9 : List Int) (r : Bool) (w : World)
  (hr0_4 : Kd.C k53 w A0_4 l0_4.length l0_4) (hc0_4 : l0_4.length ≤ c0_4) (hr0_5 : Kd.C (Kd.slice 3 (Kd.int .i64)) w A0_5 l0_5.length l0_5) (hc0_5 : l0_5.length ≤ c0_5) (hr0_6 : Kd.C (Kd.slice 66 (Kd.slice 3 (Kd.int .i64))) w A0_6 l0_6.length l0_6) (hc0_6 : l0_6.length ≤ c0_6) (hr0_8 : Kd.C k79 w A0_8 l0_8.length l0_8) (hc0_8 : l0_8.length ≤ c0_8) (hr0_9 : Kd.C (Kd.int .u8) w A0_9 l0_9.length l0_9) (hc0_9 : l0_9.length ≤ c0_9) (h : impl_StreamOk.f a0_0 a0_1 a0_2 a0_3 l0_4 l0_5 l0_6 a0_7 l0_8 l0_9 = some r) :
  Calls Tryz.prog 22 #[.agg #[.int .i64 a0_0, .int .i64 a0_1, .int .i64 a0_2, .int .i64 a0_3, .slice A0_4 l0_4.length c0_4, .slice A0_5 l0_5.length c0_5, .slice A0_6 l0_6.length c0_6, .int .i64 a0_7, .slice A0_8 l0_8.length c0_8, .slice A0_9 l0_9.length c0_9]] w fun e w' => e = .returned (.bool r) ∧ Below w.heap.size w w' := by
 unfold impl_StreamOk.f at h
 split at h
 ·rename_i hh
  obtain rfl := Option.some.inj h
  exact streamOk_calls a0_0 a0_1 a0_2 a0_3 A0_4 c0_4 l0_4 A0_5 c0_5 l0_5 A0_6 c0_6 l0_6 a0_7 A0_8 c0_8 l0_8 A0_9 c0_9 l0_9 w hr0_4 hc0_4 hr0_5 hc0_5 hr0_6 hc0_6 hr0_8 hc0_8 hh.1 hh.2.1 hh.2.2.1 hh.2.2.2
 ·cases h
end Go.Proofs.YtilimpjcdeeaiaaGreat.G


namespace Go.Proofs.YtilimpjcdeeaiaaGreat.G
open Go.RowKit Go.Proofs.YtilimpjcdeeaiaaGreatW.PrintWords Go.Proofs.YtilimpjcdeeaiaaGreatW.PrintLast Go.Proofs.YtilimpjcdeeaiaaGreatW.PrintMore
attribute [local go_sem] max2_int min2_int max_two min_two max_three min_three max_four min_four   -- for this text's walks alone
attribute [local go_sem high] eqA53
def impl_Comp_23.l0 : Nat → List (S53) → List (S53) → Int → Int → Option (Bool)
 | 0, _, _, _, _ => none
 | k + 1, x0, x1, x12, x13 => if x13 < x12 then (if 0 ≤ x13 then (if x13 < (x0.length : Int) then (if x13 < (x1.length : Int) then (if (!(((rd_T53 x0 x13).f0) == ((rd_T53 x1 x13).f0)) || (!(((rd_T53 x0 x13).f1) == ((rd_T53 x1 x13).f1)) || (!(((rd_T53 x0 x13).f2) == ((rd_T53 x1 x13).f2)) || (!(((rd_T53 x0 x13).f3) == ((rd_T53 x1 x13).f3)))))) = true then (some false) else (impl_Comp_23.l0 k x0 x1 x12 (wrap64 (x13 + 1)))) else (none)) else (none)) else (none)) else (some true)
def impl_Comp_23.f (k : Nat) (l0 : List (S53)) (l1 : List (S53)) : Option (Bool) := if (l0.length : Int) = (l1.length : Int) then (impl_Comp_23.l0 k l0 l1 (l0.length : Int) 0) else (some false)
set_option maxHeartbeats 8000000 in
set_option maxRecDepth 100000 in
theorem impl_Comp_23.calls (k : Nat) (A0 : Option Addr) (c0 : Nat) (l0 : List (S53)) (A1 : Option Addr) (c1 : Nat) (l1 : List (S53)) (r : Bool) (w : World) (hr0 : Kd.C k53 w A0 l0.length l0) (hc0 : l0.length ≤ c0) (hr1 : Kd.C k53 w A1 l1.length l1) (hc1 : l1.length ≤ c1) (h : impl_Comp_23.f k l0 l1 = some r) :
  Calls Tryz.prog 23 #[.slice A0 l0.length c0, .slice A1 l1.length c1] w fun e w' => e = .returned (.bool r) ∧ Drawn0 w w' := by
 have hu53 := Tryz.underlying53
 have HR0 := zA hr0
 have HC0 := zA hc0
 clear hr0 hc0
 have HR1 := zA hr1
 have HC1 := zA hc1
 clear hr1 hc1
 have H : (if (l0.length : Int) = (l1.length : Int) then (impl_Comp_23.l0 k l0 l1 (l0.length : Int) 0) else (some false)) = some r := h
 clear h
 by_cases c3 : (l0.length : Int) = (l1.length : Int)
 rotate_left
 ·rw [if_neg c3] at H
  have c3b0 : ((l0.length : Int) == (l1.length : Int)) = false := beq_eq_false_iff_ne.mpr c3
  have c3b1 : ((l0.length : Int) != (l1.length : Int)) = true := bne_iff_ne.mpr c3
  have c3b2 : (l0.length == l1.length) = false := by first | simpa using c3 | (simp at c3 ⊢; omega)
  obtain rfl := Option.some.inj H
  go_enter Tryz.func23, Tryz.ntmps23
  go_wp2
  repeat (go_quiet (fail); try go_wp2)
  go_ret
  exact ⟨by first | rfl | (simp; done) | (simp [*]; done), by repeat (first | exact Drawn0.refl _ | apply Drawn0.step)⟩
 rw [if_pos c3] at H
 have c3b0 : ((l0.length : Int) == (l1.length : Int)) = true := beq_iff_eq.mpr c3
 have c3b1 : ((l0.length : Int) != (l1.length : Int)) = false := bne_eq_false_iff_eq.mpr c3
 have c3b2 : (l0.length == l1.length) = true := by first | simpa using c3 | (simp at c3 ⊢; omega)
 clear c3
 have H' := zA H
 clear H
 go_enter Tryz.func23, Tryz.ntmps23
 go_wp2
 repeat (go_quiet (fail); try go_wp2)
 go_loopg [13] k (fun kq v13 w' => ∃ (x13_1 : Int), v13 = .int .i64 x13_1 ∧ Aside0 (impl_Comp_23.l0 kq l0 l1 (l0.length : Int) x13_1 = some r) ∧ Aside0 (kq ≤ k) ∧ Drawn0 w w')
 case atStart => exact ⟨(0), rfl, H', ⟨Nat.le_refl _⟩, by repeat (first | exact Drawn0.refl _ | apply Drawn0.step)⟩
 case round =>
  clear H'
  obtain ⟨x13_1, rfl, HA, HK1, ⟨m1, rfl⟩⟩ := hrel
  cases gk with
  | zero => exact absurd HA.out (by simp [impl_Comp_23.l0])
  | succ k1 =>
   have H := HA.out
   clear HA
   simp only [impl_Comp_23.l0] at H
   by_cases c4 : x13_1 < (l0.length : Int)
   rotate_left
   ·rw [if_neg c4] at H
    have c4b0 := decide_eq_false c4
    clear c4
    obtain rfl := Option.some.inj H
    go_wp2
    repeat (go_quiet (fail); try go_wp2)
    go_ret
    exact ⟨by first | rfl | (simp; done) | (simp [*]; done), by repeat (first | exact Drawn0.refl _ | apply Drawn0.step)⟩
   rw [if_pos c4] at H
   have c4b0 := zT c4
   clear c4
   by_cases c5 : 0 ≤ x13_1
   rotate_left
   ·rw [if_neg c5] at H
    exact absurd H (by simp)
   rw [if_pos c5] at H
   have c5b0 := zT c5
   clear c5
   by_cases c6 : x13_1 < (l0.length : Int)
   rotate_left
   ·rw [if_neg c6] at H
    exact absurd H (by simp)
   rw [if_pos c6] at H
   have c6b0 := zT c6
   clear c6
   by_cases c7 : x13_1 < (l1.length : Int)
   rotate_left
   ·rw [if_neg c7] at H
    exact absurd H (by simp)
   rw [if_pos c7] at H
   have c7b0 := zT c7
   clear c7
   by_cases c8 : (!(((rd_T53 l0 x13_1).f0) == ((rd_T53 l1 x13_1).f0)) || (!(((rd_T53 l0 x13_1).f1) == ((rd_T53 l1 x13_1).f1)) || (!(((rd_T53 l0 x13_1).f2) == ((rd_T53 l1 x13_1).f2)) || (!(((rd_T53 l0 x13_1).f3) == ((rd_T53 l1 x13_1).f3)))))) = true
   ·rw [if_pos c8] at H
    have c8b0 : (!(((rd_T53 l0 x13_1).f0) == ((rd_T53 l1 x13_1).f0)) || (!(((rd_T53 l0 x13_1).f1) == ((rd_T53 l1 x13_1).f1)) || (!(((rd_T53 l0 x13_1).f2) == ((rd_T53 l1 x13_1).f2)) || (!(((rd_T53 l0 x13_1).f3) == ((rd_T53 l1 x13_1).f3)))))) = true := c8
    clear c8
    obtain rfl := Option.some.inj H
    have p391 : 0 ≤ (x13_1 : Int) := zI (by first | (with_reducible assumption) | assumption)
    have q391 : x13_1 < (l0.length : Int) := zI (by first | (with_reducible assumption) | assumption)
    obtain ⟨ad391, e391, hx391_0, hx391_1, hx391_2, hx391_3⟩ := at_T53 HR0.out x13_1 p391 q391
    cases e391
    replace p391 := eq_true p391
    replace q391 := eq_true q391
    have p392 : 0 ≤ (x13_1 : Int) := zI (by first | (with_reducible assumption) | assumption)
    have q392 : x13_1 < (l1.length : Int) := zI (by first | (with_reducible assumption) | assumption)
    obtain ⟨ad392, e392, hx392_0, hx392_1, hx392_2, hx392_3⟩ := at_T53 HR1.out x13_1 p392 q392
    cases e392
    replace p392 := eq_true p392
    replace q392 := eq_true q392
    go_wp2
    repeat (go_quiet (fail); try go_wp2)
    go_ret
    exact ⟨by first | rfl | (simp; done) | (simp [*]; done), by repeat (first | exact Drawn0.refl _ | apply Drawn0.step)⟩
   rw [if_neg c8] at H
   have c8b0 : (!(((rd_T53 l0 x13_1).f0) == ((rd_T53 l1 x13_1).f0)) || (!(((rd_T53 l0 x13_1).f1) == ((rd_T53 l1 x13_1).f1)) || (!(((rd_T53 l0 x13_1).f2) == ((rd_T53 l1 x13_1).f2)) || (!(((rd_T53 l0 x13_1).f3) == ((rd_T53 l1 x13_1).f3)))))) = false := by simpa using c8
   clear c8
   have H' := zA H
   clear H
   have p391 : 0 ≤ (x13_1 : Int) := zI (by first | (with_reducible assumption) | assumption)
   have q391 : x13_1 < (l0.length : Int) := zI (by first | (with_reducible assumption) | assumption)
   obtain ⟨ad391, e391, hx391_0, hx391_1, hx391_2, hx391_3⟩ := at_T53 HR0.out x13_1 p391 q391
   cases e391
   replace p391 := eq_true p391
   replace q391 := eq_true q391
   have p392 : 0 ≤ (x13_1 : Int) := zI (by first | (with_reducible assumption) | assumption)
   have q392 : x13_1 < (l1.length : Int) := zI (by first | (with_reducible assumption) | assumption)
   obtain ⟨ad392, e392, hx392_0, hx392_1, hx392_2, hx392_3⟩ := at_T53 HR1.out x13_1 p392 q392
   cases e392
   replace p392 := eq_true p392
   replace q392 := eq_true q392
   go_wp2
   repeat (go_quiet (fail); try go_wp2)
   go_roundg k1
   case measure => have := HK1.out; omega
   case rel => exact ⟨(wrap64 (x13_1 + 1)), rfl, H', ⟨by have := HK1.out; omega⟩, by repeat (first | exact Drawn0.refl _ | apply Drawn0.step)⟩
theorem impl_Comp_23.ev (a b : List SC) (ha : a.length ≤ 4611686018427387904) : Ev (fun k => impl_Comp_23.f k a b) (eqComps a b) := by
 unfold impl_Comp_23.f
 by_cases hl : a.length = b.length
 rotate_left
 ·exact Ev.ng (by omega) (Ev.eq (Ev.now _) (eqComps_len a b hl).symm)
 refine Ev.ip (by omega) ?_
 have key : ∀ d i : Nat, a.length - i = d → i ≤ a.length → Ev (fun k => impl_Comp_23.l0 k a b (a.length : Int) (i : Int)) (eqComps (a.drop i) (b.drop i)) := by
  intro d
  induction d with
  | zero =>
   intro i hd hi
   refine Ev.step (fun _ => by rw [impl_Comp_23.l0]) ?_
   refine Ev.ng (by omega) (Ev.eq (Ev.now _) ?_)
   rw [List.drop_of_length_le (by omega), List.drop_of_length_le (by omega)]; rfl
  | succ d ih =>
   intro i hd hi
   have h1 : i < a.length := by omega
   have h2 : i < b.length := by omega
   refine Ev.step (fun _ => by rw [impl_Comp_23.l0]) ?_
   refine Ev.ip (by omega) (Ev.ip (by omega) (Ev.ip (by omega) (Ev.ip (by omega) ?_)))
   rw [rdC_nat a i h1, rdC_nat b i h2, wrap_succ i (by omega), List.drop_eq_getElem_cons h1, List.drop_eq_getElem_cons h2, eqComps]
   rw [show (!(a[i].f0 == b[i].f0) || (!(a[i].f1 == b[i].f1) || (!(a[i].f2 == b[i].f2) || (!(a[i].f3 == b[i].f3))))) = !ceq a[i] b[i] by unfold ceq; simp only [Bool.not_and]]
   cases e : ceq a[i] b[i] with
   | true => exact Ev.ng (by simp) (Ev.eq (ih (i + 1) (by omega) (by omega)) (by rw [Bool.true_and]))
   | false => exact Ev.ip rfl (Ev.now _)
 exact key _ 0 rfl (by omega)
end Go.Proofs.YtilimpjcdeeaiaaGreat.G


namespace Go.Proofs.YtilimpjcdeeaiaaGreat.G
open Go.RowKit Go.Proofs.YtilimpjcdeeaiaaGreatW.PrintWords Go.Proofs.YtilimpjcdeeaiaaGreatW.PrintLast Go.Proofs.YtilimpjcdeeaiaaGreatW.PrintMore
attribute [local go_sem] max2_int min2_int max_two min_two max_three min_three max_four min_four   -- for this text's walks alone
def slices_Equal_int_int.l0 : Nat → List Int → List Int → Int → Int → Option (Bool)
 | 0, _, _, _, _ => none
 | k + 1, x0, x1, x12, x13 => if x13 < x12 then (if 0 ≤ x13 then (if x13 < (x0.length : Int) then (if x13 < (x1.length : Int) then (if (rd x0 x13) = (rd x1 x13) then (slices_Equal_int_int.l0 k x0 x1 x12 (wrap64 (x13 + 1))) else (some false)) else (none)) else (none)) else (none)) else (some true)
def slices_Equal_int_int.f (k : Nat) (l0 : List Int) (l1 : List Int) : Option (Bool) := if (l0.length : Int) = (l1.length : Int) then (slices_Equal_int_int.l0 k l0 l1 (l0.length : Int) 0) else (some false)
set_option maxHeartbeats 8000000 in
set_option maxRecDepth 100000 in
theorem slices_Equal_int_int.calls (k : Nat) (A0 : Option Addr) (c0 : Nat) (l0 : List Int) (A1 : Option Addr) (c1 : Nat) (l1 : List Int) (r : Bool) (w : World) (hr0 : Kd.C (Kd.int .i64) w A0 l0.length l0) (hc0 : l0.length ≤ c0) (hr1 : Kd.C (Kd.int .i64) w A1 l1.length l1) (hc1 : l1.length ≤ c1) (h : slices_Equal_int_int.f k l0 l1 = some r) :
  Calls Tryz.prog 52 #[.slice A0 l0.length c0, .slice A1 l1.length c1] w fun e w' => e = .returned (.bool r) ∧ Drawn0 w w' := by
 have HR0 := zA hr0
 have HC0 := zA hc0
 clear hr0 hc0
 have HR1 := zA hr1
 have HC1 := zA hc1
 clear hr1 hc1
 have H : (if (l0.length : Int) = (l1.length : Int) then (slices_Equal_int_int.l0 k l0 l1 (l0.length : Int) 0) else (some false)) = some r := h
 clear h
 by_cases c3 : (l0.length : Int) = (l1.length : Int)
 rotate_left
 ·rw [if_neg c3] at H
  have c3b0 : ((l0.length : Int) == (l1.length : Int)) = false := beq_eq_false_iff_ne.mpr c3
  have c3b1 : ((l0.length : Int) != (l1.length : Int)) = true := bne_iff_ne.mpr c3
  have c3b2 : (l0.length == l1.length) = false := by first | simpa using c3 | (simp at c3 ⊢; omega)
  obtain rfl := Option.some.inj H
  go_enter Tryz.func52, Tryz.ntmps52
  go_wp2
  repeat (go_quiet (fail); try go_wp2)
  go_ret
  exact ⟨by first | rfl | (simp; done) | (simp [*]; done), by repeat (first | exact Drawn0.refl _ | apply Drawn0.step)⟩
 rw [if_pos c3] at H
 have c3b0 : ((l0.length : Int) == (l1.length : Int)) = true := beq_iff_eq.mpr c3
 have c3b1 : ((l0.length : Int) != (l1.length : Int)) = false := bne_eq_false_iff_eq.mpr c3
 have c3b2 : (l0.length == l1.length) = true := by first | simpa using c3 | (simp at c3 ⊢; omega)
 clear c3
 have H' := zA H
 clear H
 go_enter Tryz.func52, Tryz.ntmps52
 go_wp2
 repeat (go_quiet (fail); try go_wp2)
 go_loopg [13] k (fun kq v13 w' => ∃ (x13_1 : Int), v13 = .int .i64 x13_1 ∧ Aside0 (slices_Equal_int_int.l0 kq l0 l1 (l0.length : Int) x13_1 = some r) ∧ Aside0 (kq ≤ k) ∧ Drawn0 w w')
 case atStart => exact ⟨(0), rfl, H', ⟨Nat.le_refl _⟩, by repeat (first | exact Drawn0.refl _ | apply Drawn0.step)⟩
 case round =>
  clear H'
  obtain ⟨x13_1, rfl, HA, HK1, ⟨m1, rfl⟩⟩ := hrel
  cases gk with
  | zero => exact absurd HA.out (by simp [slices_Equal_int_int.l0])
  | succ k1 =>
   have H := HA.out
   clear HA
   simp only [slices_Equal_int_int.l0] at H
   by_cases c4 : x13_1 < (l0.length : Int)
   rotate_left
   ·rw [if_neg c4] at H
    have c4b0 := decide_eq_false c4
    clear c4
    obtain rfl := Option.some.inj H
    go_wp2
    repeat (go_quiet (fail); try go_wp2)
    go_ret
    exact ⟨by first | rfl | (simp; done) | (simp [*]; done), by repeat (first | exact Drawn0.refl _ | apply Drawn0.step)⟩
   rw [if_pos c4] at H
   have c4b0 := zT c4
   clear c4
   by_cases c5 : 0 ≤ x13_1
   rotate_left
   ·rw [if_neg c5] at H
    exact absurd H (by simp)
   rw [if_pos c5] at H
   have c5b0 := zT c5
   clear c5
   by_cases c6 : x13_1 < (l0.length : Int)
   rotate_left
   ·rw [if_neg c6] at H
    exact absurd H (by simp)
   rw [if_pos c6] at H
   have c6b0 := zT c6
   clear c6
   by_cases c7 : x13_1 < (l1.length : Int)
   rotate_left
   ·rw [if_neg c7] at H
    exact absurd H (by simp)
   rw [if_pos c7] at H
   have c7b0 := zT c7
   clear c7
   by_cases c8 : (rd l0 x13_1) = (rd l1 x13_1)
   rotate_left
   ·rw [if_neg c8] at H
    have c8b0 : ((rd l0 x13_1) == (rd l1 x13_1)) = false := beq_eq_false_iff_ne.mpr c8
    have c8b1 : ((rd l0 x13_1) != (rd l1 x13_1)) = true := bne_iff_ne.mpr c8
    obtain rfl := Option.some.inj H
    have p393 : 0 ≤ (x13_1 : Int) := zI (by first | (with_reducible assumption) | assumption)
    have q393 : x13_1 < (l0.length : Int) := zI (by first | (with_reducible assumption) | assumption)
    obtain ⟨ad393, e393, hx393_0⟩ := Kd.at_int HR0.out x13_1 p393 q393
    cases e393
    replace p393 := eq_true p393
    replace q393 := eq_true q393
    have p394 : 0 ≤ (x13_1 : Int) := zI (by first | (with_reducible assumption) | assumption)
    have q394 : x13_1 < (l1.length : Int) := zI (by first | (with_reducible assumption) | assumption)
    obtain ⟨ad394, e394, hx394_0⟩ := Kd.at_int HR1.out x13_1 p394 q394
    cases e394
    replace p394 := eq_true p394
    replace q394 := eq_true q394
    go_wp2
    repeat (go_quiet (fail); try go_wp2)
    go_ret
    exact ⟨by first | rfl | (simp; done) | (simp [*]; done), by repeat (first | exact Drawn0.refl _ | apply Drawn0.step)⟩
   rw [if_pos c8] at H
   have c8b0 : ((rd l0 x13_1) == (rd l1 x13_1)) = true := beq_iff_eq.mpr c8
   have c8b1 : ((rd l0 x13_1) != (rd l1 x13_1)) = false := bne_eq_false_iff_eq.mpr c8
   clear c8
   have H' := zA H
   clear H
   have p393 : 0 ≤ (x13_1 : Int) := zI (by first | (with_reducible assumption) | assumption)
   have q393 : x13_1 < (l0.length : Int) := zI (by first | (with_reducible assumption) | assumption)
   obtain ⟨ad393, e393, hx393_0⟩ := Kd.at_int HR0.out x13_1 p393 q393
   cases e393
   replace p393 := eq_true p393
   replace q393 := eq_true q393
   have p394 : 0 ≤ (x13_1 : Int) := zI (by first | (with_reducible assumption) | assumption)
   have q394 : x13_1 < (l1.length : Int) := zI (by first | (with_reducible assumption) | assumption)
   obtain ⟨ad394, e394, hx394_0⟩ := Kd.at_int HR1.out x13_1 p394 q394
   cases e394
   replace p394 := eq_true p394
   replace q394 := eq_true q394
   go_wp2
   repeat (go_quiet (fail); try go_wp2)
   go_roundg k1
   case measure => have := HK1.out; omega
   case rel => exact ⟨(wrap64 (x13_1 + 1)), rfl, H', ⟨by have := HK1.out; omega⟩, by repeat (first | exact Drawn0.refl _ | apply Drawn0.step)⟩
theorem slices_Equal_int_int.ev (a b : List Int) (ha : a.length ≤ 4611686018427387904) : Ev (fun k => slices_Equal_int_int.f k a b) (a == b) := by
 unfold slices_Equal_int_int.f
 by_cases hl : a.length = b.length
 rotate_left
 ·refine Ev.ng (by omega) (Ev.eq (Ev.now _) ?_)
  symm
  rw [beq_eq_false_iff_ne]
  intro h; exact hl (by rw [h])
 refine Ev.ip (by omega) ?_
 have key : ∀ d i : Nat, a.length - i = d → i ≤ a.length → Ev (fun k => slices_Equal_int_int.l0 k a b (a.length : Int) (i : Int)) (a.drop i == b.drop i) := by
  intro d
  induction d with
  | zero =>
   intro i hd hi
   refine Ev.step (fun _ => by rw [slices_Equal_int_int.l0]) ?_
   refine Ev.ng (by omega) (Ev.eq (Ev.now _) ?_)
   rw [List.drop_of_length_le (by omega), List.drop_of_length_le (by omega)]; rfl
  | succ d ih =>
   intro i hd hi
   have h1 : i < a.length := by omega
   have h2 : i < b.length := by omega
   refine Ev.step (fun _ => by rw [slices_Equal_int_int.l0]) ?_
   refine Ev.ip (by omega) (Ev.ip (by omega) (Ev.ip (by omega) (Ev.ip (by omega) ?_)))
   rw [rd_nat a i h1, rd_nat b i h2, wrap_succ i (by omega)]
   have e : (a.drop i == b.drop i) = (a[i] == b[i] && a.drop (i + 1) == b.drop (i + 1)) := by
    rw [List.drop_eq_getElem_cons h1, List.drop_eq_getElem_cons h2]; rfl
   rw [e]
   by_cases h : a[i] = b[i]
   ·exact Ev.ip h (Ev.eq (ih (i + 1) (by omega) (by omega)) (by simp [h]))
   ·exact Ev.ng h (Ev.eq (Ev.now _) (by simp [h]))
 exact key _ 0 rfl (by omega)
end Go.Proofs.YtilimpjcdeeaiaaGreat.G


namespace Go.Proofs.YtilimpjcdeeaiaaGreat.G
open Go.RowKit Go.Proofs.YtilimpjcdeeaiaaGreatW.PrintWords Go.Proofs.YtilimpjcdeeaiaaGreatW.PrintLast Go.Proofs.YtilimpjcdeeaiaaGreatW.PrintMore
attribute [local go_sem] max2_int min2_int max_two min_two max_three min_three max_four min_four   -- for this text's walks alone
def EqRow (w : World) (fn : Nat) (D : List Int → Prop) : Prop :=
 (∀ (args : Array Value) (W1 : World), Sem.run Tryz.prog (callFunc fn args) W1 = Result.ok (Next.enter fn args) W1) ∧
 ∀ (A1 : Option Addr) (c1 : Nat) (x : List Int) (A2 : Option Addr) (c2 : Nat) (y : List Int) (W1 : World), Below w.heap.size w W1 → D x → D y → Kd.C (Kd.int .i64) W1 A1 x.length x → x.length ≤ c1 → Kd.C (Kd.int .i64) W1 A2 y.length y → y.length ≤ c2 → Calls Tryz.prog fn #[.slice A1 x.length c1, .slice A2 y.length c2] W1 fun e w' => e = .returned (.bool (x == y)) ∧ Below W1.heap.size W1 w'
set_option maxRecDepth 100000 in
set_option maxHeartbeats 4000000 in
theorem eqf_EqRow (fn : Nat) (D : List Int → Prop) (A0 : Option Addr) (c0 : Nat) (l0 : List (List Int)) (A1 : Option Addr) (c1 : Nat) (l1 : List (List Int)) (w : World) (hS : EqRow w fn D) (hD0 : ∀ x ∈ l0, D x) (hD1 : ∀ x ∈ l1, D x) (hr0 : Kd.C (Kd.slice 3 (Kd.int .i64)) w A0 l0.length l0) (hc0 : l0.length ≤ c0) (hr1 : Kd.C (Kd.slice 3 (Kd.int .i64)) w A1 l1.length l1) (hc1 : l1.length ≤ c1) (hm : l0.length ≤ 100000000) :
  Calls Tryz.prog 51 #[.slice A0 l0.length c0, .slice A1 l1.length c1, .func (.func fn) #[] #[]] w fun e w' => e = .returned (.bool (l0 == l1)) ∧ Below w.heap.size w w' := by
 have HR0 := zA hr0
 have HC0 := zA hc0
 have HR1 := zA hr1
 have HC1 := zA hc1
 have HS := zA hS
 have HD0 := zA hD0
 have HD1 := zA hD1
 clear hr0 hc0 hr1 hc1 hS hD0 hD1
 have HB0 := zA (Below.refl w.heap.size w)
 by_cases hlen : l0.length = l1.length
 ·have hb1 : ((l0.length : Int) != (l1.length : Int)) = false := bne_eq_false_iff_eq.mpr (by omega)
  have hb2 : (l0.length != l1.length) = false := bne_eq_false_iff_eq.mpr hlen
  have HLEN := zA hlen
  clear hlen
  go_enter Tryz.func51, Tryz.ntmps51
  go_wp2
  clear hb1 hb2
  go_loopw [17] (fun i w' => ∃ k : Nat, i = .int .i64 k ∧ k ≤ l0.length ∧ Aside0 (l0.take k = l1.take k) ∧ Aside0 (Below w.heap.size w w')) (fun i w' => l0.length - (intOf i).toNat)
  case atStart => exact ⟨0, rfl, by omega, ⟨by simp⟩, by first | exact HB0 | exact ⟨by repeat (first | exact HB0.out | apply zB | apply below_drew)⟩⟩
  case round =>
   clear HB0
   obtain ⟨k, rfl, hk, HA, HB⟩ := hrel
   by_cases hlt : k < l0.length
   ·have hlt1 : k < l1.length := by have := HLEN.out; omega
    obtain ⟨ad, B1, d1, e1, hx0, hl0, hi0⟩ := at_L2 (Kd.C_below HR0.out HB.out) (k : Int) (by omega) (by omega)
    cases e1
    obtain ⟨ad2, B2, d2, e2, hx1, hl1, hi1⟩ := at_L2 (Kd.C_below HR1.out HB.out) (k : Int) (by omega) (by omega)
    cases e2
    rw [Int.toNat_natCast] at hx0 hx1
    have HI0 := zA hi0
    have HI1 := zA hi1
    have HL0 := zA hl0
    have HL1 := zA hl1
    have hg0 : rd_L2 l0 k = l0[k] := by simp [rd_L2, hlt]
    have hg1 : rd_L2 l1 k = l1[k] := by simp [rd_L2, hlt1]
    have HDX := zA (show D (rd_L2 l0 k) by rw [hg0]; exact HD0.out _ (List.getElem_mem _))
    have HDY := zA (show D (rd_L2 l1 k) by rw [hg1]; exact HD1.out _ (List.getElem_mem _))
    clear hi0 hi1 hl0 hl1
    cases hp : (rd_L2 l0 k == rd_L2 l1 k)
    all_goals
     have HP := zA hp
     have HG0 := zA hg0
     have HG1 := zA hg1
     clear hp hg0 hg1
     go_wp2_with fail
     rw [HS.out.1]
     simp only [Oper.upon_enter, Array.append_empty]
     refine (HS.out.2 B1 d1 (rd_L2 l0 k) B2 d2 (rd_L2 l1 k) wr HB.out HDX.out HDY.out HI0.out HL0.out HI1.out HL1.out).mono ?_
     rw [HP.out]
     rintro e w' ⟨rfl, hb2_⟩
     have HB2 := zA (Below.trans HB.out (Below.mono hb2_ HB.out.size))
     clear hb2_
    ·have HE := zA (show (l0 == l1) = false from by
      rw [beq_eq_false_iff_ne]
      intro h
      subst h
      have := HP.out
      simp at this)
     go_wp2
     go_ret
     exact ⟨by rw [HE.out]; rfl, by repeat (first | exact HB2.out | apply zB | apply below_drew)⟩
    ·go_wp2
     go_roundw
     case rel => exact ⟨k + 1, by go_num, by omega, ⟨by
      have h := HP.out
      rw [HG0.out, HG1.out, beq_iff_eq] at h
      rw [List.take_succ_eq_append_getElem hlt, List.take_succ_eq_append_getElem hlt1, HA.out, h]⟩, by first | exact HB2 | exact ⟨by repeat (first | exact HB2.out | apply zB | apply below_drew)⟩⟩
     case measure => simp [intOf]; omega
   ·obtain rfl : k = l0.length := by omega
    have HE := zA (show (l0 == l1) = true from by
     rw [beq_iff_eq]
     have h := HA.out
     rw [List.take_length, HLEN.out, List.take_length] at h
     exact h)
    clear HA
    go_wp2
    go_ret
    exact ⟨by rw [HE.out]; rfl, by repeat (first | exact HB.out | apply zB | apply below_drew)⟩
 ·have hb1 : ((l0.length : Int) != (l1.length : Int)) = true := bne_iff_ne.mpr (by omega)
  have hb2 : (l0.length != l1.length) = true := bne_iff_ne.mpr hlen
  have HE := zA (show (l0 == l1) = false from by
   rw [beq_eq_false_iff_ne]
   intro h
   exact hlen (by rw [h]))
  go_enter Tryz.func51, Tryz.ntmps51
  go_wp2
  go_ret
  exact ⟨by rw [HE.out]; rfl, by repeat (first | exact HB0.out | apply zB | apply below_drew)⟩
end Go.Proofs.YtilimpjcdeeaiaaGreat.G


namespace Go.Proofs.YtilimpjcdeeaiaaGreat.G
open Go.RowKit Go.Proofs.YtilimpjcdeeaiaaGreatW.PrintWords Go.Proofs.YtilimpjcdeeaiaaGreatW.PrintLast Go.Proofs.YtilimpjcdeeaiaaGreatW.PrintMore
attribute [local go_sem] max2_int min2_int max_two min_two max_three min_three max_four min_four   -- for this text's walks alone
def impl_sameLists.f (l0 l1 : List (List Int)) : Option Bool := if l0.length ≤ 100000000 ∧ (∀ x ∈ l0, x.length ≤ 100000000) ∧ (∀ x ∈ l1, x.length ≤ 100000000) then some (l0 == l1) else none
theorem same_fn (w : World) : EqRow w 52 (fun x => x.length ≤ 100000000) := by
 refine ⟨fun args W => by go_simp, fun A1 c1 x A2 c2 y W1 hb hx hy h1 h2 h3 h4 => ?_⟩
 obtain ⟨k, hk⟩ := (slices_Equal_int_int.ev x y (by omega)).rounds
 exact (slices_Equal_int_int.calls k A1 c1 x A2 c2 y _ W1 h1 h2 h3 h4 hk).mono fun e w' ⟨he, hd⟩ => ⟨he, by obtain ⟨n, rfl⟩ := hd; exact zB (Below.refl _ _) n⟩
set_option maxRecDepth 100000 in
set_option maxHeartbeats 4000000 in
theorem impl_sameLists.calls (A0 : Option Addr) (c0 : Nat) (l0 : List (List Int)) (A1 : Option Addr) (c1 : Nat) (l1 : List (List Int)) (r : Bool) (w : World) (hr0 : Kd.C (Kd.slice 3 (Kd.int .i64)) w A0 l0.length l0) (hc0 : l0.length ≤ c0) (hr1 : Kd.C (Kd.slice 3 (Kd.int .i64)) w A1 l1.length l1) (hc1 : l1.length ≤ c1) (h : impl_sameLists.f l0 l1 = some r) :
  Calls Tryz.prog 24 #[.slice A0 l0.length c0, .slice A1 l1.length c1] w fun e w' => e = .returned (.bool r) ∧ Below w.heap.size w w' := by
 unfold impl_sameLists.f at h
 split at h
 ·rename_i hh
  obtain ⟨h1, h2, h3⟩ := hh
  have HE := zA (Option.some.inj h)
  have HR0 := zA hr0
  have HC0 := zA hc0
  have HR1 := zA hr1
  have HC1 := zA hc1
  have H2 := zA h2
  have H3 := zA h3
  clear h hr0 hc0 hr1 hc1 h2 h3
  go_enter Tryz.func24, Tryz.ntmps24
  go_wp2_with (first | (go_at_call 51; go_loud ((with_reducible refine (eqf_EqRow _ (fun x => x.length ≤ 100000000) _ _ l0 _ _ l1 _ (same_fn _) H2.out H3.out ?s1 ?s2 ?s3 ?s4 h1).mono ?_); (case s1 => exact HR0.out); (case s2 => exact HC0.out); (case s3 => exact HR1.out); (case s4 => exact HC1.out)); rintro e w' ⟨rfl, hb_⟩; have HB := zA hb_; clear hb_))
  go_ret
  exact ⟨by rw [← HE.out]; rfl, by repeat (first | exact HB.out | apply zB | apply below_drew)⟩
 ·cases h
end Go.Proofs.YtilimpjcdeeaiaaGreat.G


namespace Go.Proofs.YtilimpjcdeeaiaaGreat.G
open Go.RowKit Go.Proofs.YtilimpjcdeeaiaaGreatW.PrintWords Go.Proofs.YtilimpjcdeeaiaaGreatW.PrintLast Go.Proofs.YtilimpjcdeeaiaaGreatW.PrintMore
attribute [local go_sem] max2_int min2_int max_two min_two max_three min_three max_four min_four   -- for this text's walks alone
def slices_Equal_byte_byte.l0 : Nat → List Int → List Int → Int → Int → Option (Bool)
 | 0, _, _, _, _ => none
 | k + 1, x0, x1, x12, x13 => if x13 < x12 then (if 0 ≤ x13 then (if x13 < (x0.length : Int) then (if x13 < (x1.length : Int) then (if (rd x0 x13) = (rd x1 x13) then (slices_Equal_byte_byte.l0 k x0 x1 x12 (wrap64 (x13 + 1))) else (some false)) else (none)) else (none)) else (none)) else (some true)
def slices_Equal_byte_byte.f (k : Nat) (l0 : List Int) (l1 : List Int) : Option (Bool) := if (l0.length : Int) = (l1.length : Int) then (slices_Equal_byte_byte.l0 k l0 l1 (l0.length : Int) 0) else (some false)
set_option maxHeartbeats 8000000 in
set_option maxRecDepth 100000 in
theorem slices_Equal_byte_byte.calls (k : Nat) (A0 : Option Addr) (c0 : Nat) (l0 : List Int) (A1 : Option Addr) (c1 : Nat) (l1 : List Int) (r : Bool) (w : World) (hr0 : Kd.C (Kd.int .u8) w A0 l0.length l0) (hc0 : l0.length ≤ c0) (hr1 : Kd.C (Kd.int .u8) w A1 l1.length l1) (hc1 : l1.length ≤ c1) (h : slices_Equal_byte_byte.f k l0 l1 = some r) :
  Calls Tryz.prog 26 #[.slice A0 l0.length c0, .slice A1 l1.length c1] w fun e w' => e = .returned (.bool r) ∧ Drawn0 w w' := by
 have HR0 := zA hr0
 have HC0 := zA hc0
 clear hr0 hc0
 have HR1 := zA hr1
 have HC1 := zA hc1
 clear hr1 hc1
 have H : (if (l0.length : Int) = (l1.length : Int) then (slices_Equal_byte_byte.l0 k l0 l1 (l0.length : Int) 0) else (some false)) = some r := h
 clear h
 by_cases c3 : (l0.length : Int) = (l1.length : Int)
 rotate_left
 ·rw [if_neg c3] at H
  have c3b0 : ((l0.length : Int) == (l1.length : Int)) = false := beq_eq_false_iff_ne.mpr c3
  have c3b1 : ((l0.length : Int) != (l1.length : Int)) = true := bne_iff_ne.mpr c3
  have c3b2 : (l0.length == l1.length) = false := by first | simpa using c3 | (simp at c3 ⊢; omega)
  obtain rfl := Option.some.inj H
  go_enter Tryz.func26, Tryz.ntmps26
  go_wp2
  repeat (go_quiet (fail); try go_wp2)
  go_ret
  exact ⟨by first | rfl | (simp; done) | (simp [*]; done), by repeat (first | exact Drawn0.refl _ | apply Drawn0.step)⟩
 rw [if_pos c3] at H
 have c3b0 : ((l0.length : Int) == (l1.length : Int)) = true := beq_iff_eq.mpr c3
 have c3b1 : ((l0.length : Int) != (l1.length : Int)) = false := bne_eq_false_iff_eq.mpr c3
 have c3b2 : (l0.length == l1.length) = true := by first | simpa using c3 | (simp at c3 ⊢; omega)
 clear c3
 have H' := zA H
 clear H
 go_enter Tryz.func26, Tryz.ntmps26
 go_wp2
 repeat (go_quiet (fail); try go_wp2)
 go_loopg [13] k (fun kq v13 w' => ∃ (x13_1 : Int), v13 = .int .i64 x13_1 ∧ Aside0 (slices_Equal_byte_byte.l0 kq l0 l1 (l0.length : Int) x13_1 = some r) ∧ Aside0 (kq ≤ k) ∧ Drawn0 w w')
 case atStart => exact ⟨(0), rfl, H', ⟨Nat.le_refl _⟩, by repeat (first | exact Drawn0.refl _ | apply Drawn0.step)⟩
 case round =>
  clear H'
  obtain ⟨x13_1, rfl, HA, HK1, ⟨m1, rfl⟩⟩ := hrel
  cases gk with
  | zero => exact absurd HA.out (by simp [slices_Equal_byte_byte.l0])
  | succ k1 =>
   have H := HA.out
   clear HA
   simp only [slices_Equal_byte_byte.l0] at H
   by_cases c4 : x13_1 < (l0.length : Int)
   rotate_left
   ·rw [if_neg c4] at H
    have c4b0 := decide_eq_false c4
    clear c4
    obtain rfl := Option.some.inj H
    go_wp2
    repeat (go_quiet (fail); try go_wp2)
    go_ret
    exact ⟨by first | rfl | (simp; done) | (simp [*]; done), by repeat (first | exact Drawn0.refl _ | apply Drawn0.step)⟩
   rw [if_pos c4] at H
   have c4b0 := zT c4
   clear c4
   by_cases c5 : 0 ≤ x13_1
   rotate_left
   ·rw [if_neg c5] at H
    exact absurd H (by simp)
   rw [if_pos c5] at H
   have c5b0 := zT c5
   clear c5
   by_cases c6 : x13_1 < (l0.length : Int)
   rotate_left
   ·rw [if_neg c6] at H
    exact absurd H (by simp)
   rw [if_pos c6] at H
   have c6b0 := zT c6
   clear c6
   by_cases c7 : x13_1 < (l1.length : Int)
   rotate_left
   ·rw [if_neg c7] at H
    exact absurd H (by simp)
   rw [if_pos c7] at H
   have c7b0 := zT c7
   clear c7
   by_cases c8 : (rd l0 x13_1) = (rd l1 x13_1)
   rotate_left
   ·rw [if_neg c8] at H
    have c8b0 : ((rd l0 x13_1) == (rd l1 x13_1)) = false := beq_eq_false_iff_ne.mpr c8
    have c8b1 : ((rd l0 x13_1) != (rd l1 x13_1)) = true := bne_iff_ne.mpr c8
    obtain rfl := Option.some.inj H
    have p395 : 0 ≤ (x13_1 : Int) := zI (by first | (with_reducible assumption) | assumption)
    have q395 : x13_1 < (l0.length : Int) := zI (by first | (with_reducible assumption) | assumption)
    obtain ⟨ad395, e395, hx395_0⟩ := Kd.at_int HR0.out x13_1 p395 q395
    cases e395
    replace p395 := eq_true p395
    replace q395 := eq_true q395
    have p396 : 0 ≤ (x13_1 : Int) := zI (by first | (with_reducible assumption) | assumption)
    have q396 : x13_1 < (l1.length : Int) := zI (by first | (with_reducible assumption) | assumption)
    obtain ⟨ad396, e396, hx396_0⟩ := Kd.at_int HR1.out x13_1 p396 q396
    cases e396
    replace p396 := eq_true p396
    replace q396 := eq_true q396
    go_wp2
    repeat (go_quiet (fail); try go_wp2)
    go_ret
    exact ⟨by first | rfl | (simp; done) | (simp [*]; done), by repeat (first | exact Drawn0.refl _ | apply Drawn0.step)⟩
   rw [if_pos c8] at H
   have c8b0 : ((rd l0 x13_1) == (rd l1 x13_1)) = true := beq_iff_eq.mpr c8
   have c8b1 : ((rd l0 x13_1) != (rd l1 x13_1)) = false := bne_eq_false_iff_eq.mpr c8
   clear c8
   have H' := zA H
   clear H
   have p395 : 0 ≤ (x13_1 : Int) := zI (by first | (with_reducible assumption) | assumption)
   have q395 : x13_1 < (l0.length : Int) := zI (by first | (with_reducible assumption) | assumption)
   obtain ⟨ad395, e395, hx395_0⟩ := Kd.at_int HR0.out x13_1 p395 q395
   cases e395
   replace p395 := eq_true p395
   replace q395 := eq_true q395
   have p396 : 0 ≤ (x13_1 : Int) := zI (by first | (with_reducible assumption) | assumption)
   have q396 : x13_1 < (l1.length : Int) := zI (by first | (with_reducible assumption) | assumption)
   obtain ⟨ad396, e396, hx396_0⟩ := Kd.at_int HR1.out x13_1 p396 q396
   cases e396
   replace p396 := eq_true p396
   replace q396 := eq_true q396
   go_wp2
   repeat (go_quiet (fail); try go_wp2)
   go_roundg k1
   case measure => have := HK1.out; omega
   case rel => exact ⟨(wrap64 (x13_1 + 1)), rfl, H', ⟨by have := HK1.out; omega⟩, by repeat (first | exact Drawn0.refl _ | apply Drawn0.step)⟩
theorem slices_Equal_byte_byte.ev (a b : List Int) (ha : a.length ≤ 4611686018427387904) : Ev (fun k => slices_Equal_byte_byte.f k a b) (a == b) := by
 unfold slices_Equal_byte_byte.f
 by_cases hl : a.length = b.length
 rotate_left
 ·refine Ev.ng (by omega) (Ev.eq (Ev.now _) ?_)
  symm
  rw [beq_eq_false_iff_ne]
  intro h; exact hl (by rw [h])
 refine Ev.ip (by omega) ?_
 have key : ∀ d i : Nat, a.length - i = d → i ≤ a.length → Ev (fun k => slices_Equal_byte_byte.l0 k a b (a.length : Int) (i : Int)) (a.drop i == b.drop i) := by
  intro d
  induction d with
  | zero =>
   intro i hd hi
   refine Ev.step (fun _ => by rw [slices_Equal_byte_byte.l0]) ?_
   refine Ev.ng (by omega) (Ev.eq (Ev.now _) ?_)
   rw [List.drop_of_length_le (by omega), List.drop_of_length_le (by omega)]; rfl
  | succ d ih =>
   intro i hd hi
   have h1 : i < a.length := by omega
   have h2 : i < b.length := by omega
   refine Ev.step (fun _ => by rw [slices_Equal_byte_byte.l0]) ?_
   refine Ev.ip (by omega) (Ev.ip (by omega) (Ev.ip (by omega) (Ev.ip (by omega) ?_)))
   rw [rd_nat a i h1, rd_nat b i h2, wrap_succ i (by omega)]
   have e : (a.drop i == b.drop i) = (a[i] == b[i] && a.drop (i + 1) == b.drop (i + 1)) := by
    rw [List.drop_eq_getElem_cons h1, List.drop_eq_getElem_cons h2]; rfl
   rw [e]
   by_cases h : a[i] = b[i]
   ·exact Ev.ip h (Ev.eq (ih (i + 1) (by omega) (by omega)) (by simp [h]))
   ·exact Ev.ng h (Ev.eq (Ev.now _) (by simp [h]))
 exact key _ 0 rfl (by omega)
end Go.Proofs.YtilimpjcdeeaiaaGreat.G


namespace Go.Proofs.YtilimpjcdeeaiaaGreat.G
open Go.RowKit Go.Proofs.YtilimpjcdeeaiaaGreatW.PrintWords Go.Proofs.YtilimpjcdeeaiaaGreatW.PrintLast Go.Proofs.YtilimpjcdeeaiaaGreatW.PrintMore
attribute [local go_sem] max2_int min2_int max_two min_two max_three min_three max_four min_four   -- for this text's walks alone
def EqPlane (w : World) (fn : Nat) (D : List (List Int) → Prop) : Prop :=
 (∀ (args : Array Value) (W1 : World), Sem.run Tryz.prog (callFunc fn args) W1 = Result.ok (Next.enter fn args) W1) ∧
 ∀ (A1 : Option Addr) (c1 : Nat) (x : List (List Int)) (A2 : Option Addr) (c2 : Nat) (y : List (List Int)) (W1 : World), Below w.heap.size w W1 → D x → D y → Kd.C (Kd.slice 3 (Kd.int .i64)) W1 A1 x.length x → x.length ≤ c1 → Kd.C (Kd.slice 3 (Kd.int .i64)) W1 A2 y.length y → y.length ≤ c2 → Calls Tryz.prog fn #[.slice A1 x.length c1, .slice A2 y.length c2] W1 fun e w' => e = .returned (.bool (x == y)) ∧ Below W1.heap.size W1 w'
set_option maxRecDepth 100000 in
set_option maxHeartbeats 4000000 in
theorem eqf_EqPlane (fn : Nat) (D : List (List Int) → Prop) (A0 : Option Addr) (c0 : Nat) (l0 : List (List (List Int))) (A1 : Option Addr) (c1 : Nat) (l1 : List (List (List Int))) (w : World) (hS : EqPlane w fn D) (hD0 : ∀ x ∈ l0, D x) (hD1 : ∀ x ∈ l1, D x) (hr0 : Kd.C (Kd.slice 66 (Kd.slice 3 (Kd.int .i64))) w A0 l0.length l0) (hc0 : l0.length ≤ c0) (hr1 : Kd.C (Kd.slice 66 (Kd.slice 3 (Kd.int .i64))) w A1 l1.length l1) (hc1 : l1.length ≤ c1) (hm : l0.length ≤ 100000000) :
  Calls Tryz.prog 25 #[.slice A0 l0.length c0, .slice A1 l1.length c1, .func (.func fn) #[] #[]] w fun e w' => e = .returned (.bool (l0 == l1)) ∧ Below w.heap.size w w' := by
 have HR0 := zA hr0
 have HC0 := zA hc0
 have HR1 := zA hr1
 have HC1 := zA hc1
 have HS := zA hS
 have HD0 := zA hD0
 have HD1 := zA hD1
 clear hr0 hc0 hr1 hc1 hS hD0 hD1
 have HB0 := zA (Below.refl w.heap.size w)
 by_cases hlen : l0.length = l1.length
 ·have hb1 : ((l0.length : Int) != (l1.length : Int)) = false := bne_eq_false_iff_eq.mpr (by omega)
  have hb2 : (l0.length != l1.length) = false := bne_eq_false_iff_eq.mpr hlen
  have HLEN := zA hlen
  clear hlen
  go_enter Tryz.func25, Tryz.ntmps25
  go_wp2
  clear hb1 hb2
  go_loopw [17] (fun i w' => ∃ k : Nat, i = .int .i64 k ∧ k ≤ l0.length ∧ Aside0 (l0.take k = l1.take k) ∧ Aside0 (Below w.heap.size w w')) (fun i w' => l0.length - (intOf i).toNat)
  case atStart => exact ⟨0, rfl, by omega, ⟨by simp⟩, by first | exact HB0 | exact ⟨by repeat (first | exact HB0.out | apply zB | apply below_drew)⟩⟩
  case round =>
   clear HB0
   obtain ⟨k, rfl, hk, HA, HB⟩ := hrel
   by_cases hlt : k < l0.length
   ·have hlt1 : k < l1.length := by have := HLEN.out; omega
    obtain ⟨ad, B1, d1, e1, hx0, hl0, hi0⟩ := at_L3 (Kd.C_below HR0.out HB.out) (k : Int) (by omega) (by omega)
    cases e1
    obtain ⟨ad2, B2, d2, e2, hx1, hl1, hi1⟩ := at_L3 (Kd.C_below HR1.out HB.out) (k : Int) (by omega) (by omega)
    cases e2
    rw [Int.toNat_natCast] at hx0 hx1
    have HI0 := zA hi0
    have HI1 := zA hi1
    have HL0 := zA hl0
    have HL1 := zA hl1
    have hg0 : rd_L3 l0 k = l0[k] := by simp [rd_L3, hlt]
    have hg1 : rd_L3 l1 k = l1[k] := by simp [rd_L3, hlt1]
    have HDX := zA (show D (rd_L3 l0 k) by rw [hg0]; exact HD0.out _ (List.getElem_mem _))
    have HDY := zA (show D (rd_L3 l1 k) by rw [hg1]; exact HD1.out _ (List.getElem_mem _))
    clear hi0 hi1 hl0 hl1
    cases hp : (rd_L3 l0 k == rd_L3 l1 k)
    all_goals
     have HP := zA hp
     have HG0 := zA hg0
     have HG1 := zA hg1
     clear hp hg0 hg1
     go_wp2_with fail
     rw [HS.out.1]
     simp only [Oper.upon_enter, Array.append_empty]
     refine (HS.out.2 B1 d1 (rd_L3 l0 k) B2 d2 (rd_L3 l1 k) wr HB.out HDX.out HDY.out HI0.out HL0.out HI1.out HL1.out).mono ?_
     rw [HP.out]
     rintro e w' ⟨rfl, hb2_⟩
     have HB2 := zA (Below.trans HB.out (Below.mono hb2_ HB.out.size))
     clear hb2_
    ·have HE := zA (show (l0 == l1) = false from by
      rw [beq_eq_false_iff_ne]
      intro h
      subst h
      have := HP.out
      simp at this)
     go_wp2
     go_ret
     exact ⟨by rw [HE.out]; rfl, by repeat (first | exact HB2.out | apply zB | apply below_drew)⟩
    ·go_wp2
     go_roundw
     case rel => exact ⟨k + 1, by go_num, by omega, ⟨by
      have h := HP.out
      rw [HG0.out, HG1.out, beq_iff_eq] at h
      rw [List.take_succ_eq_append_getElem hlt, List.take_succ_eq_append_getElem hlt1, HA.out, h]⟩, by first | exact HB2 | exact ⟨by repeat (first | exact HB2.out | apply zB | apply below_drew)⟩⟩
     case measure => simp [intOf]; omega
   ·obtain rfl : k = l0.length := by omega
    have HE := zA (show (l0 == l1) = true from by
     rw [beq_iff_eq]
     have h := HA.out
     rw [List.take_length, HLEN.out, List.take_length] at h
     exact h)
    clear HA
    go_wp2
    go_ret
    exact ⟨by rw [HE.out]; rfl, by repeat (first | exact HB.out | apply zB | apply below_drew)⟩
 ·have hb1 : ((l0.length : Int) != (l1.length : Int)) = true := bne_iff_ne.mpr (by omega)
  have hb2 : (l0.length != l1.length) = true := bne_iff_ne.mpr hlen
  have HE := zA (show (l0 == l1) = false from by
   rw [beq_eq_false_iff_ne]
   intro h
   exact hlen (by rw [h]))
  go_enter Tryz.func25, Tryz.ntmps25
  go_wp2
  go_ret
  exact ⟨by rw [HE.out]; rfl, by repeat (first | exact HB0.out | apply zB | apply below_drew)⟩
end Go.Proofs.YtilimpjcdeeaiaaGreat.G


namespace Go.Proofs.YtilimpjcdeeaiaaGreat.G
open Go.RowKit Go.Proofs.YtilimpjcdeeaiaaGreatW.PrintWords Go.Proofs.YtilimpjcdeeaiaaGreatW.PrintLast Go.Proofs.YtilimpjcdeeaiaaGreatW.PrintMore
attribute [local go_sem] max2_int min2_int max_two min_two max_three min_three max_four min_four   -- for this text's walks alone
--import Derived.BigRegion
def sizedS (l4 : List S53) (l5 : List (List Int)) (l6 : List (List (List Int))) (l8 : List S79) (l9 : List Int) : Prop := l4.length ≤ 100000000 ∧ (l5.length ≤ 100000000 ∧ ∀ x ∈ l5, x.length ≤ 100000000) ∧ (l6.length ≤ 100000000 ∧ ∀ x ∈ l6, x.length ≤ 100000000 ∧ ∀ y ∈ x, y.length ≤ 100000000) ∧ (l8.length ≤ 2000000 ∧ ∀ s ∈ l8, s.f0.length ≤ 2000000) ∧ l9.length ≤ 100000000
instance (l4 : List S53) (l5 : List (List Int)) (l6 : List (List (List Int))) (l8 : List S79) (l9 : List Int) : Decidable (sizedS l4 l5 l6 l8 l9) := by unfold sizedS; infer_instance
def impl_SameStream.f (a0_0 a0_1 a0_2 a0_3 : Int) (l0_4 : List S53) (l0_5 : List (List Int)) (l0_6 : List (List (List Int))) (a0_7 : Int) (l0_8 : List S79) (l0_9 : List Int) (a1_0 a1_1 a1_2 a1_3 : Int) (l1_4 : List S53) (l1_5 : List (List Int)) (l1_6 : List (List (List Int))) (a1_7 : Int) (l1_8 : List S79) (l1_9 : List Int) : Option Bool :=
 if sizedS l0_4 l0_5 l0_6 l0_8 l0_9 ∧ sizedS l1_4 l1_5 l1_6 l1_8 l1_9 then some (sameM a0_0 a0_1 a0_2 a0_3 l0_4 l0_5 l0_6 a0_7 l0_8 l0_9 a1_0 a1_1 a1_2 a1_3 l1_4 l1_5 l1_6 a1_7 l1_8 l1_9) else none
theorem same_plane (w : World) : EqPlane w 24 (fun x => x.length ≤ 100000000 ∧ ∀ y ∈ x, y.length ≤ 100000000) := by
 refine ⟨fun args W => by go_simp, fun A1 c1 x A2 c2 y W1 hb hx hy h1 h2 h3 h4 => ?_⟩
 exact impl_sameLists.calls A1 c1 x A2 c2 y _ W1 h1 h2 h3 h4 (by unfold impl_sameLists.f; rw [if_pos ⟨hx.1, hx.2, hy.2⟩])
set_option maxRecDepth 100000 in
set_option maxHeartbeats 8000000 in
theorem sameStream_calls (a0_0 a0_1 a0_2 a0_3 : Int) (A0_4 : Option Addr) (c0_4 : Nat) (l0_4 : List S53) (A0_5 : Option Addr) (c0_5 : Nat) (l0_5 : List (List Int)) (A0_6 : Option Addr) (c0_6 : Nat) (l0_6 : List (List (List Int))) (a0_7 : Int) (A0_8 : Option Addr) (c0_8 : Nat) (l0_8 : List S79) (A0_9 : Option Addr) (c0_9 : Nat) (l0_9 : List Int) (a1_0 a1_1 a1_2 a1_3 : Int) (A1_4 : Option Addr) (c1_4 : Nat) (l1_4 : List S53) (A1_5 : Option Addr) (c1_5 : Nat) (l1_5 : List (List Int)) (A1_6 : Option Addr) (c1_6 : Nat) (l1_6 : List (List (List Int))) (a1_7 : Int) (A1_8 : Option Addr) (c1_8 : Nat) (l1_8 : List S79) (A1_9 : Option Addr) (c1_9 : Nat) (l1_9 : List Int) (w : World)
  (hr0_4 : Kd.C k53 w A0_4 l0_4.length l0_4) (hc0_4 : l0_4.length ≤ c0_4) (hr0_5 : Kd.C (Kd.slice 3 (Kd.int .i64)) w A0_5 l0_5.length l0_5) (hc0_5 : l0_5.length ≤ c0_5) (hr0_6 : Kd.C (Kd.slice 66 (Kd.slice 3 (Kd.int .i64))) w A0_6 l0_6.length l0_6) (hc0_6 : l0_6.length ≤ c0_6) (hr0_8 : Kd.C k79 w A0_8 l0_8.length l0_8) (hc0_8 : l0_8.length ≤ c0_8) (hr0_9 : Kd.C (Kd.int .u8) w A0_9 l0_9.length l0_9) (hc0_9 : l0_9.length ≤ c0_9)
  (hr1_4 : Kd.C k53 w A1_4 l1_4.length l1_4) (hc1_4 : l1_4.length ≤ c1_4) (hr1_5 : Kd.C (Kd.slice 3 (Kd.int .i64)) w A1_5 l1_5.length l1_5) (hc1_5 : l1_5.length ≤ c1_5) (hr1_6 : Kd.C (Kd.slice 66 (Kd.slice 3 (Kd.int .i64))) w A1_6 l1_6.length l1_6) (hc1_6 : l1_6.length ≤ c1_6) (hr1_8 : Kd.C k79 w A1_8 l1_8.length l1_8) (hc1_8 : l1_8.length ≤ c1_8) (hr1_9 : Kd.C (Kd.int .u8) w A1_9 l1_9.length l1_9) (hc1_9 : l1_9.length ≤ c1_9)
  (g0 : sizedS l0_4 l0_5 l0_6 l0_8 l0_9) (g1 : sizedS l1_4 l1_5 l1_6 l1_8 l1_9) :
  Calls Tryz.prog 7 #[.agg #[.int .i64 a0_0, .int .i64 a0_1, .int .i64 a0_2, .int .i64 a0_3, .slice A0_4 l0_4.length c0_4, .slice A0_5 l0_5.length c0_5, .slice A0_6 l0_6.length c0_6, .int .i64 a0_7, .slice A0_8 l0_8.length c0_8, .slice A0_9 l0_9.length c0_9], .agg #[.int .i64 a1_0, .int .i64 a1_1, .int .i64 a1_2, .int .i64 a1_3, .slice A1_4 l1_4.length c1_4, .slice A1_5 l1_5.length c1_5, .slice A1_6 l1_6.length c1_6, .int .i64 a1_7, .slice A1_8 l1_8.length c1_8, .slice A1_9 l1_9.length c1_9]] w fun e w' => e = .returned (.bool (sameM a0_0 a0_1 a0_2 a0_3 l0_4 l0_5 l0_6 a0_7 l0_8 l0_9 a1_0 a1_1 a1_2 a1_3 l1_4 l1_5 l1_6 a1_7 l1_8 l1_9)) ∧ Below w.heap.size w w' := by
 have hu41 := Tryz.underlying41
 have hu37 := Tryz.underlying37
 have hu38 := Tryz.underlying38
 have R0_4 := zA hr0_4
 have C0_4 := zA hc0_4
 have R0_5 := zA hr0_5
 have C0_5 := zA hc0_5
 have R0_6 := zA hr0_6
 have C0_6 := zA hc0_6
 have R0_8 := zA hr0_8
 have C0_8 := zA hc0_8
 have R0_9 := zA hr0_9
 have C0_9 := zA hc0_9
 have R1_4 := zA hr1_4
 have C1_4 := zA hc1_4
 have R1_5 := zA hr1_5
 have C1_5 := zA hc1_5
 have R1_6 := zA hr1_6
 have C1_6 := zA hc1_6
 have R1_8 := zA hr1_8
 have C1_8 := zA hc1_8
 have R1_9 := zA hr1_9
 have C1_9 := zA hc1_9
 obtain ⟨kc, hkc⟩ := (impl_Comp_23.ev l0_4 l1_4 (by have := g0.1; omega)).rounds
 obtain ⟨kn, hkn⟩ := (slices_Equal_byte_byte.ev l0_9 l1_9 (by have := g0.2.2.2.2; omega)).rounds
 have K1 := zA (show impl_StreamOk.f a0_0 a0_1 a0_2 a0_3 l0_4 l0_5 l0_6 a0_7 l0_8 l0_9 = some (streamOkM a0_0 a0_1 a0_2 a0_3 l0_4 l0_5 l0_6 a0_7 l0_8 l0_9) by unfold impl_StreamOk.f; rw [if_pos ⟨g0.2.1.1, g0.2.2.1.1, g0.2.2.2.1.1, g0.2.2.2.1.2⟩])
 have K2 := zA (show impl_StreamOk.f a1_0 a1_1 a1_2 a1_3 l1_4 l1_5 l1_6 a1_7 l1_8 l1_9 = some (streamOkM a1_0 a1_1 a1_2 a1_3 l1_4 l1_5 l1_6 a1_7 l1_8 l1_9) by unfold impl_StreamOk.f; rw [if_pos ⟨g1.2.1.1, g1.2.2.1.1, g1.2.2.2.1.1, g1.2.2.2.1.2⟩])
 have K3 := zA hkc
 have K4 := zA (show impl_sameLists.f l0_5 l1_5 = some (l0_5 == l1_5) by unfold impl_sameLists.f; rw [if_pos ⟨g0.2.1.1, g0.2.1.2, g1.2.1.2⟩])
 have K5 := zA g0.2.2.1.2
 have K6 := zA g1.2.2.1.2
 have K7 := zA g0.2.2.1.1
 have K8 := zA hkn
 clear hkc hkn g0 g1 hr0_4 hc0_4 hr0_5 hc0_5 hr0_6 hc0_6 hr0_8 hc0_8 hr0_9 hc0_9 hr1_4 hc1_4 hr1_5 hc1_5 hr1_6 hc1_6 hr1_8 hc1_8 hr1_9 hc1_9
 have HM := zA (show sameM a0_0 a0_1 a0_2 a0_3 l0_4 l0_5 l0_6 a0_7 l0_8 l0_9 a1_0 a1_1 a1_2 a1_3 l1_4 l1_5 l1_6 a1_7 l1_8 l1_9 = (streamOkM a0_0 a0_1 a0_2 a0_3 l0_4 l0_5 l0_6 a0_7 l0_8 l0_9 && (streamOkM a1_0 a1_1 a1_2 a1_3 l1_4 l1_5 l1_6 a1_7 l1_8 l1_9 && (decide (a0_0 = a1_0) && (decide (a0_1 = a1_1) && (decide (a0_2 = a1_2) && (eqComps l0_4 l1_4 && ((l0_5 == l1_5) && ((l0_6 == l1_6) && (l0_9 == l1_9)))))))) ) from rfl)
 generalize sameM a0_0 a0_1 a0_2 a0_3 l0_4 l0_5 l0_6 a0_7 l0_8 l0_9 a1_0 a1_1 a1_2 a1_3 l1_4 l1_5 l1_6 a1_7 l1_8 l1_9 = r at HM ⊢
 have HB := zA (Below.refl w.heap.size w)
 go_enter Tryz.func7, Tryz.ntmps7
 go_upto_region 1 with (first | ((with_reducible refine gate_dst (N := 2) rfl ?_); refine nxX (N := 2) (cs := #[.int .i64 a0_0, .int .i64 a0_1, .int .i64 a0_2, .int .i64 a0_3, .slice A0_4 l0_4.length c0_4, .slice A0_5 l0_5.length c0_5, .slice A0_6 l0_6.length c0_6, .int .i64 a0_7, .slice A0_8 l0_8.length c0_8, .slice A0_9 l0_9.length c0_9]) (t := 41) ?_; intro gb2 hg w3 hbox hb; have n0_ := nxH hb HB; have BA := zA hbox; clear HB; have HB := n0_; clear n0_ hb hg hbox) | ((with_reducible refine gate_dst (N := 3) rfl ?_); refine nxX (N := 3) (cs := #[.int .i64 a1_0, .int .i64 a1_1, .int .i64 a1_2, .int .i64 a1_3, .slice A1_4 l1_4.length c1_4, .slice A1_5 l1_5.length c1_5, .slice A1_6 l1_6.length c1_6, .int .i64 a1_7, .slice A1_8 l1_8.length c1_8, .slice A1_9 l1_9.length c1_9]) (t := 41) ?_; intro gb3 hg w3 hbox hb; have n1_ := zA (blk_below (by (with_reducible repeat (first | refine zG ?_ _ | refine zH ?_ | refine zD ?_ _)); exact BA.out) hb); clear BA; have BA := n1_; clear n1_; have n0_ := nxH hb HB; have BB := zA hbox; clear HB; have HB := n0_; clear n0_ hb hg hbox))
 (try simp only [Act.put, List.setIfInBounds_toArray, List.set_cons_zero, List.set_cons_succ])
 obtain ⟨⟨p0, p1, p2, p3, p4⟩, p5, p6, p7, p8, p9⟩ := cells10 BA.out
 obtain ⟨⟨q0, q1, q2, q3, q4⟩, q5, q6, q7, q8, q9⟩ := cells10 BB.out
 clear p0 p1 p2 p3 p4 p5 p6 p7 p8 p9 q0 q1 q2 q3 q4 q5 q6 q7 q8 q9
 generalize hW0 : (w3 : World) = W0 at *
 clear hW0
 have KS := zA (show ∀ w' : World, Below W0.heap.size W0 w' → (w'.cell? ⟨gb2, 0, none⟩ = some (.int .i64 a0_0) ∧ w'.cell? ⟨gb2, 1, none⟩ = some (.int .i64 a0_1) ∧ w'.cell? ⟨gb2, 2, none⟩ = some (.int .i64 a0_2) ∧ w'.cell? ⟨gb2, 3, none⟩ = some (.int .i64 a0_3) ∧ w'.cell? ⟨gb2, 4, none⟩ = some (.slice A0_4 l0_4.length c0_4) ∧ w'.cell? ⟨gb3, 0, none⟩ = some (.int .i64 a1_0) ∧ w'.cell? ⟨gb3, 1, none⟩ = some (.int .i64 a1_1) ∧ w'.cell? ⟨gb3, 2, none⟩ = some (.int .i64 a1_2) ∧ w'.cell? ⟨gb3, 3, none⟩ = some (.int .i64 a1_3) ∧ w'.cell? ⟨gb3, 4, none⟩ = some (.slice A1_4 l1_4.length c1_4)) from fun w' hb_ => ⟨zK (blk_below BA.out hb_) 0, zK (blk_below BA.out hb_) 1, zK (blk_below BA.out hb_) 2, zK (blk_below BA.out hb_) 3, zK (blk_below BA.out hb_) 4, zK (blk_below BB.out hb_) 0, zK (blk_below BB.out hb_) 1, zK (blk_below BB.out hb_) 2, zK (blk_below BB.out hb_) 3, zK (blk_below BB.out hb_) 4⟩)
 go_region_held3 (fun w' => w'.cell? ⟨gb2, 0, none⟩ = some (.int .i64 a0_0) ∧ w'.cell? ⟨gb2, 1, none⟩ = some (.int .i64 a0_1) ∧ w'.cell? ⟨gb2, 2, none⟩ = some (.int .i64 a0_2) ∧ w'.cell? ⟨gb2, 3, none⟩ = some (.int .i64 a0_3) ∧ w'.cell? ⟨gb2, 4, none⟩ = some (.slice A0_4 l0_4.length c0_4) ∧ w'.cell? ⟨gb3, 0, none⟩ = some (.int .i64 a1_0) ∧ w'.cell? ⟨gb3, 1, none⟩ = some (.int .i64 a1_1) ∧ w'.cell? ⟨gb3, 2, none⟩ = some (.int .i64 a1_2) ∧ w'.cell? ⟨gb3, 3, none⟩ = some (.int .i64 a1_3) ∧ w'.cell? ⟨gb3, 4, none⟩ = some (.slice A1_4 l1_4.length c1_4)) (first | (go_keep; done) | exact KS.out _ (by repeat (first | exact Below.refl _ _ | apply below_drew | apply zB | apply zC | (refine zE ?_ (by simp))))) (fail)
 focus
  have FA := zA (show ((W0.alloc (Obj.cells #[.int .i64 a0_0, .int .i64 a0_1, .int .i64 a0_2, .int .i64 a0_3, .slice A0_4 l0_4.length c0_4] 37)).alloc (Obj.cells #[.int .i64 a1_0, .int .i64 a1_1, .int .i64 a1_2, .int .i64 a1_3, .slice A1_4 l1_4.length c1_4] 37)).drew.heap[W0.heap.size]? = some (Obj.cells #[.int .i64 a0_0, .int .i64 a0_1, .int .i64 a0_2, .int .i64 a0_3, .slice A0_4 l0_4.length c0_4] 37 (0, 0)) from zH (zD (blk_new _ _) _))
  have FB := zA (show ((W0.alloc (Obj.cells #[.int .i64 a0_0, .int .i64 a0_1, .int .i64 a0_2, .int .i64 a0_3, .slice A0_4 l0_4.length c0_4] 37)).alloc (Obj.cells #[.int .i64 a1_0, .int .i64 a1_1, .int .i64 a1_2, .int .i64 a1_3, .slice A1_4 l1_4.length c1_4] 37)).drew.heap[W0.heap.size + 1]? = some (Obj.cells #[.int .i64 a1_0, .int .i64 a1_1, .int .i64 a1_2, .int .i64 a1_3, .slice A1_4 l1_4.length c1_4] 37 (0, 0)) from by have h_ := zH (blk_new (W0.alloc (Obj.cells #[.int .i64 a0_0, .int .i64 a0_1, .int .i64 a0_2, .int .i64 a0_3, .slice A0_4 l0_4.length c0_4] 37)) (Obj.cells #[.int .i64 a1_0, .int .i64 a1_1, .int .i64 a1_2, .int .i64 a1_3, .slice A1_4 l1_4.length c1_4] 37)); simpa using h_)
  have BA2 := zA (show ((W0.alloc (Obj.cells #[.int .i64 a0_0, .int .i64 a0_1, .int .i64 a0_2, .int .i64 a0_3, .slice A0_4 l0_4.length c0_4] 37)).alloc (Obj.cells #[.int .i64 a1_0, .int .i64 a1_1, .int .i64 a1_2, .int .i64 a1_3, .slice A1_4 l1_4.length c1_4] 37)).drew.heap[gb2]? = _ from zH (zD (zD BA.out _) _))
  have BB2 := zA (show ((W0.alloc (Obj.cells #[.int .i64 a0_0, .int .i64 a0_1, .int .i64 a0_2, .int .i64 a0_3, .slice A0_4 l0_4.length c0_4] 37)).alloc (Obj.cells #[.int .i64 a1_0, .int .i64 a1_1, .int .i64 a1_2, .int .i64 a1_3, .slice A1_4 l1_4.length c1_4] 37)).drew.heap[gb3]? = _ from zH (zD (zD BB.out _) _))
  have HB2 := zA (show Below w.heap.size w ((W0.alloc (Obj.cells #[.int .i64 a0_0, .int .i64 a0_1, .int .i64 a0_2, .int .i64 a0_3, .slice A0_4 l0_4.length c0_4] 37)).alloc (Obj.cells #[.int .i64 a1_0, .int .i64 a1_1, .int .i64 a1_2, .int .i64 a1_3, .slice A1_4 l1_4.length c1_4] 37)).drew from below_drew (zC (zC HB.out _) _))
  clear BA BB HB KS
  rename_i hHeld_
  clear hHeld_
  generalize ((W0.alloc (Obj.cells #[.int .i64 a0_0, .int .i64 a0_1, .int .i64 a0_2, .int .i64 a0_3, .slice A0_4 l0_4.length c0_4] 37)).alloc (Obj.cells #[.int .i64 a1_0, .int .i64 a1_1, .int .i64 a1_2, .int .i64 a1_3, .slice A1_4 l1_4.length c1_4] 37)).drew = W1 at FA FB BA2 BB2 HB2 ⊢
  generalize W0.heap.size + 1 = gg at FB ⊢
  generalize W0.heap.size = gf at FA ⊢
  have BA := BA2
  have BB := BB2
  have HB := HB2
  clear BA2 BB2 HB2
  clear W0
 rotate_left
 focus
  have FB := zA (show ((W0.alloc (Obj.cells #[.int .i64 a1_0, .int .i64 a1_1, .int .i64 a1_2, .int .i64 a1_3, .slice A1_4 l1_4.length c1_4] 37)).alloc (Obj.cells #[.int .i64 a0_0, .int .i64 a0_1, .int .i64 a0_2, .int .i64 a0_3, .slice A0_4 l0_4.length c0_4] 37)).drew.heap[W0.heap.size]? = some (Obj.cells #[.int .i64 a1_0, .int .i64 a1_1, .int .i64 a1_2, .int .i64 a1_3, .slice A1_4 l1_4.length c1_4] 37 (0, 0)) from zH (zD (blk_new _ _) _))
  have FA := zA (show ((W0.alloc (Obj.cells #[.int .i64 a1_0, .int .i64 a1_1, .int .i64 a1_2, .int .i64 a1_3, .slice A1_4 l1_4.length c1_4] 37)).alloc (Obj.cells #[.int .i64 a0_0, .int .i64 a0_1, .int .i64 a0_2, .int .i64 a0_3, .slice A0_4 l0_4.length c0_4] 37)).drew.heap[W0.heap.size + 1]? = some (Obj.cells #[.int .i64 a0_0, .int .i64 a0_1, .int .i64 a0_2, .int .i64 a0_3, .slice A0_4 l0_4.length c0_4] 37 (0, 0)) from by have h_ := zH (blk_new (W0.alloc (Obj.cells #[.int .i64 a1_0, .int .i64 a1_1, .int .i64 a1_2, .int .i64 a1_3, .slice A1_4 l1_4.length c1_4] 37)) (Obj.cells #[.int .i64 a0_0, .int .i64 a0_1, .int .i64 a0_2, .int .i64 a0_3, .slice A0_4 l0_4.length c0_4] 37)); simpa using h_)
  have BA2 := zA (show ((W0.alloc (Obj.cells #[.int .i64 a1_0, .int .i64 a1_1, .int .i64 a1_2, .int .i64 a1_3, .slice A1_4 l1_4.length c1_4] 37)).alloc (Obj.cells #[.int .i64 a0_0, .int .i64 a0_1, .int .i64 a0_2, .int .i64 a0_3, .slice A0_4 l0_4.length c0_4] 37)).drew.heap[gb2]? = _ from zH (zD (zD BA.out _) _))
  have BB2 := zA (show ((W0.alloc (Obj.cells #[.int .i64 a1_0, .int .i64 a1_1, .int .i64 a1_2, .int .i64 a1_3, .slice A1_4 l1_4.length c1_4] 37)).alloc (Obj.cells #[.int .i64 a0_0, .int .i64 a0_1, .int .i64 a0_2, .int .i64 a0_3, .slice A0_4 l0_4.length c0_4] 37)).drew.heap[gb3]? = _ from zH (zD (zD BB.out _) _))
  have HB2 := zA (show Below w.heap.size w ((W0.alloc (Obj.cells #[.int .i64 a1_0, .int .i64 a1_1, .int .i64 a1_2, .int .i64 a1_3, .slice A1_4 l1_4.length c1_4] 37)).alloc (Obj.cells #[.int .i64 a0_0, .int .i64 a0_1, .int .i64 a0_2, .int .i64 a0_3, .slice A0_4 l0_4.length c0_4] 37)).drew from below_drew (zC (zC HB.out _) _))
  clear BA BB HB KS
  rename_i hHeld_
  clear hHeld_
  generalize ((W0.alloc (Obj.cells #[.int .i64 a1_0, .int .i64 a1_1, .int .i64 a1_2, .int .i64 a1_3, .slice A1_4 l1_4.length c1_4] 37)).alloc (Obj.cells #[.int .i64 a0_0, .int .i64 a0_1, .int .i64 a0_2, .int .i64 a0_3, .slice A0_4 l0_4.length c0_4] 37)).drew = W1 at FA FB BA2 BB2 HB2 ⊢
  generalize W0.heap.size + 1 = gf at FA ⊢
  generalize W0.heap.size = gg at FB ⊢
  have BA := BA2
  have BB := BB2
  have HB := HB2
  clear BA2 BB2 HB2
  clear W0
 all_goals
  obtain ⟨⟨p0, p1, p2, p3, p4⟩, p5, p6, p7, p8, p9⟩ := cells10 BA.out
  obtain ⟨⟨q0, q1, q2, q3, q4⟩, q5, q6, q7, q8, q9⟩ := cells10 BB.out
  obtain ⟨f0, f1, f2, f3, f4⟩ := cells5 FA.out
  obtain ⟨g0, g1, g2, g3, g4⟩ := cells5 FB.out
  cases hq : streamOkM a0_0 a0_1 a0_2 a0_3 l0_4 l0_5 l0_6 a0_7 l0_8 l0_9
  ·rw [hq] at HM K1
   clear hq
   go_wp2_with (first | (go_at_call 22; go_loud ((with_reducible refine (impl_StreamOk.calls a0_0 a0_1 a0_2 a0_3 _ _ l0_4 _ _ l0_5 _ _ l0_6 a0_7 _ _ l0_8 _ _ l0_9 _ _ ?s1 C0_4.out ?s2 C0_5.out ?s3 C0_6.out ?s4 C0_8.out ?s5 C0_9.out K1.out).mono ?_); (case s1 => exact Kd.C_below R0_4.out HB.out); (case s2 => exact Kd.C_below R0_5.out HB.out); (case s3 => exact Kd.C_below R0_6.out HB.out); (case s4 => exact Kd.C_below R0_8.out HB.out); (case s5 => exact Kd.C_below R0_9.out HB.out)); rintro e w6 ⟨rfl, hb⟩; have n0_ := zA (blk_below BA.out hb); have n1_ := zA (blk_below BB.out hb); have n2_ := zA (blk_below FA.out hb); have n3_ := zA (blk_below FB.out hb); have n9_ := zA (below_step HB.out hb); clear p0 p1 p2 p3 p4 p5 p6 p7 p8 p9 q0 q1 q2 q3 q4 q5 q6 q7 q8 q9 f0 f1 f2 f3 f4 g0 g1 g2 g3 g4; clear BA BB FA FB HB; have BA := n0_; have BB := n1_; have FA := n2_; have FB := n3_; have HB := n9_; clear n0_ n1_ n2_ n3_ n9_; clear hb; obtain ⟨⟨p0, p1, p2, p3, p4⟩, p5, p6, p7, p8, p9⟩ := cells10 BA.out; obtain ⟨⟨q0, q1, q2, q3, q4⟩, q5, q6, q7, q8, q9⟩ := cells10 BB.out; obtain ⟨f0, f1, f2, f3, f4⟩ := cells5 FA.out; obtain ⟨g0, g1, g2, g3, g4⟩ := cells5 FB.out))
   go_ret
   exact ⟨by rw [HM.out]; first | rfl | simp, HB.out⟩
  rw [hq] at HM K1
  clear hq
  rw [Bool.true_and] at HM
  cases hq : streamOkM a1_0 a1_1 a1_2 a1_3 l1_4 l1_5 l1_6 a1_7 l1_8 l1_9
  ·rw [hq] at HM K2
   clear hq
   go_wp2_with (first | (go_at_call 22; go_loud ((with_reducible refine (impl_StreamOk.calls a0_0 a0_1 a0_2 a0_3 _ _ l0_4 _ _ l0_5 _ _ l0_6 a0_7 _ _ l0_8 _ _ l0_9 _ _ ?s1 C0_4.out ?s2 C0_5.out ?s3 C0_6.out ?s4 C0_8.out ?s5 C0_9.out K1.out).mono ?_); (case s1 => exact Kd.C_below R0_4.out HB.out); (case s2 => exact Kd.C_below R0_5.out HB.out); (case s3 => exact Kd.C_below R0_6.out HB.out); (case s4 => exact Kd.C_below R0_8.out HB.out); (case s5 => exact Kd.C_below R0_9.out HB.out)); rintro e w6 ⟨rfl, hb⟩; have n0_ := zA (blk_below BA.out hb); have n1_ := zA (blk_below BB.out hb); have n2_ := zA (blk_below FA.out hb); have n3_ := zA (blk_below FB.out hb); have n9_ := zA (below_step HB.out hb); clear p0 p1 p2 p3 p4 p5 p6 p7 p8 p9 q0 q1 q2 q3 q4 q5 q6 q7 q8 q9 f0 f1 f2 f3 f4 g0 g1 g2 g3 g4; clear BA BB FA FB HB; have BA := n0_; have BB := n1_; have FA := n2_; have FB := n3_; have HB := n9_; clear n0_ n1_ n2_ n3_ n9_; clear hb; obtain ⟨⟨p0, p1, p2, p3, p4⟩, p5, p6, p7, p8, p9⟩ := cells10 BA.out; obtain ⟨⟨q0, q1, q2, q3, q4⟩, q5, q6, q7, q8, q9⟩ := cells10 BB.out; obtain ⟨f0, f1, f2, f3, f4⟩ := cells5 FA.out; obtain ⟨g0, g1, g2, g3, g4⟩ := cells5 FB.out) | (go_at_call 22; go_loud ((with_reducible refine (impl_StreamOk.calls a1_0 a1_1 a1_2 a1_3 _ _ l1_4 _ _ l1_5 _ _ l1_6 a1_7 _ _ l1_8 _ _ l1_9 _ _ ?s1 C1_4.out ?s2 C1_5.out ?s3 C1_6.out ?s4 C1_8.out ?s5 C1_9.out K2.out).mono ?_); (case s1 => exact Kd.C_below R1_4.out HB.out); (case s2 => exact Kd.C_below R1_5.out HB.out); (case s3 => exact Kd.C_below R1_6.out HB.out); (case s4 => exact Kd.C_below R1_8.out HB.out); (case s5 => exact Kd.C_below R1_9.out HB.out)); rintro e w6 ⟨rfl, hb⟩; have n0_ := zA (blk_below BA.out hb); have n1_ := zA (blk_below BB.out hb); have n2_ := zA (blk_below FA.out hb); have n3_ := zA (blk_below FB.out hb); have n9_ := zA (below_step HB.out hb); clear p0 p1 p2 p3 p4 p5 p6 p7 p8 p9 q0 q1 q2 q3 q4 q5 q6 q7 q8 q9 f0 f1 f2 f3 f4 g0 g1 g2 g3 g4; clear BA BB FA FB HB; have BA := n0_; have BB := n1_; have FA := n2_; have FB := n3_; have HB := n9_; clear n0_ n1_ n2_ n3_ n9_; clear hb; obtain ⟨⟨p0, p1, p2, p3, p4⟩, p5, p6, p7, p8, p9⟩ := cells10 BA.out; obtain ⟨⟨q0, q1, q2, q3, q4⟩, q5, q6, q7, q8, q9⟩ := cells10 BB.out; obtain ⟨f0, f1, f2, f3, f4⟩ := cells5 FA.out; obtain ⟨g0, g1, g2, g3, g4⟩ := cells5 FB.out))
   go_ret
   exact ⟨by rw [HM.out]; first | rfl | simp, HB.out⟩
  rw [hq] at HM K2
  clear hq
  rw [Bool.true_and] at HM
  by_cases hq : a0_0 = a1_0
  rotate_left
  ·have hb_ : (a0_0 == a1_0) = false := beq_eq_false_iff_ne.mpr hq
   rw [show decide (a0_0 = a1_0) = false from decide_eq_false hq] at HM
   clear hq
   go_wp2_with (first | (go_at_call 22; go_loud ((with_reducible refine (impl_StreamOk.calls a0_0 a0_1 a0_2 a0_3 _ _ l0_4 _ _ l0_5 _ _ l0_6 a0_7 _ _ l0_8 _ _ l0_9 _ _ ?s1 C0_4.out ?s2 C0_5.out ?s3 C0_6.out ?s4 C0_8.out ?s5 C0_9.out K1.out).mono ?_); (case s1 => exact Kd.C_below R0_4.out HB.out); (case s2 => exact Kd.C_below R0_5.out HB.out); (case s3 => exact Kd.C_below R0_6.out HB.out); (case s4 => exact Kd.C_below R0_8.out HB.out); (case s5 => exact Kd.C_below R0_9.out HB.out)); rintro e w6 ⟨rfl, hb⟩; have n0_ := zA (blk_below BA.out hb); have n1_ := zA (blk_below BB.out hb); have n2_ := zA (blk_below FA.out hb); have n3_ := zA (blk_below FB.out hb); have n9_ := zA (below_step HB.out hb); clear p0 p1 p2 p3 p4 p5 p6 p7 p8 p9 q0 q1 q2 q3 q4 q5 q6 q7 q8 q9 f0 f1 f2 f3 f4 g0 g1 g2 g3 g4; clear BA BB FA FB HB; have BA := n0_; have BB := n1_; have FA := n2_; have FB := n3_; have HB := n9_; clear n0_ n1_ n2_ n3_ n9_; clear hb; obtain ⟨⟨p0, p1, p2, p3, p4⟩, p5, p6, p7, p8, p9⟩ := cells10 BA.out; obtain ⟨⟨q0, q1, q2, q3, q4⟩, q5, q6, q7, q8, q9⟩ := cells10 BB.out; obtain ⟨f0, f1, f2, f3, f4⟩ := cells5 FA.out; obtain ⟨g0, g1, g2, g3, g4⟩ := cells5 FB.out) | (go_at_call 22; go_loud ((with_reducible refine (impl_StreamOk.calls a1_0 a1_1 a1_2 a1_3 _ _ l1_4 _ _ l1_5 _ _ l1_6 a1_7 _ _ l1_8 _ _ l1_9 _ _ ?s1 C1_4.out ?s2 C1_5.out ?s3 C1_6.out ?s4 C1_8.out ?s5 C1_9.out K2.out).mono ?_); (case s1 => exact Kd.C_below R1_4.out HB.out); (case s2 => exact Kd.C_below R1_5.out HB.out); (case s3 => exact Kd.C_below R1_6.out HB.out); (case s4 => exact Kd.C_below R1_8.out HB.out); (case s5 => exact Kd.C_below R1_9.out HB.out)); rintro e w6 ⟨rfl, hb⟩; have n0_ := zA (blk_below BA.out hb); have n1_ := zA (blk_below BB.out hb); have n2_ := zA (blk_below FA.out hb); have n3_ := zA (blk_below FB.out hb); have n9_ := zA (below_step HB.out hb); clear p0 p1 p2 p3 p4 p5 p6 p7 p8 p9 q0 q1 q2 q3 q4 q5 q6 q7 q8 q9 f0 f1 f2 f3 f4 g0 g1 g2 g3 g4; clear BA BB FA FB HB; have BA := n0_; have BB := n1_; have FA := n2_; have FB := n3_; have HB := n9_; clear n0_ n1_ n2_ n3_ n9_; clear hb; obtain ⟨⟨p0, p1, p2, p3, p4⟩, p5, p6, p7, p8, p9⟩ := cells10 BA.out; obtain ⟨⟨q0, q1, q2, q3, q4⟩, q5, q6, q7, q8, q9⟩ := cells10 BB.out; obtain ⟨f0, f1, f2, f3, f4⟩ := cells5 FA.out; obtain ⟨g0, g1, g2, g3, g4⟩ := cells5 FB.out))
   go_ret
   exact ⟨by rw [HM.out]; first | rfl | simp, HB.out⟩
  have hb_0 : (a0_0 == a1_0) = true := beq_iff_eq.mpr hq
  rw [show decide (a0_0 = a1_0) = true from zT hq, Bool.true_and] at HM
  clear hq
  by_cases hq : a0_1 = a1_1
  rotate_left
  ·have hb_ : (a0_1 == a1_1) = false := beq_eq_false_iff_ne.mpr hq
   rw [show decide (a0_1 = a1_1) = false from decide_eq_false hq] at HM
   clear hq
   go_wp2_with (first | (go_at_call 22; go_loud ((with_reducible refine (impl_StreamOk.calls a0_0 a0_1 a0_2 a0_3 _ _ l0_4 _ _ l0_5 _ _ l0_6 a0_7 _ _ l0_8 _ _ l0_9 _ _ ?s1 C0_4.out ?s2 C0_5.out ?s3 C0_6.out ?s4 C0_8.out ?s5 C0_9.out K1.out).mono ?_); (case s1 => exact Kd.C_below R0_4.out HB.out); (case s2 => exact Kd.C_below R0_5.out HB.out); (case s3 => exact Kd.C_below R0_6.out HB.out); (case s4 => exact Kd.C_below R0_8.out HB.out); (case s5 => exact Kd.C_below R0_9.out HB.out)); rintro e w6 ⟨rfl, hb⟩; have n0_ := zA (blk_below BA.out hb); have n1_ := zA (blk_below BB.out hb); have n2_ := zA (blk_below FA.out hb); have n3_ := zA (blk_below FB.out hb); have n9_ := zA (below_step HB.out hb); clear p0 p1 p2 p3 p4 p5 p6 p7 p8 p9 q0 q1 q2 q3 q4 q5 q6 q7 q8 q9 f0 f1 f2 f3 f4 g0 g1 g2 g3 g4; clear BA BB FA FB HB; have BA := n0_; have BB := n1_; have FA := n2_; have FB := n3_; have HB := n9_; clear n0_ n1_ n2_ n3_ n9_; clear hb; obtain ⟨⟨p0, p1, p2, p3, p4⟩, p5, p6, p7, p8, p9⟩ := cells10 BA.out; obtain ⟨⟨q0, q1, q2, q3, q4⟩, q5, q6, q7, q8, q9⟩ := cells10 BB.out; obtain ⟨f0, f1, f2, f3, f4⟩ := cells5 FA.out; obtain ⟨g0, g1, g2, g3, g4⟩ := cells5 FB.out) | (go_at_call 22; go_loud ((with_reducible refine (impl_StreamOk.calls a1_0 a1_1 a1_2 a1_3 _ _ l1_4 _ _ l1_5 _ _ l1_6 a1_7 _ _ l1_8 _ _ l1_9 _ _ ?s1 C1_4.out ?s2 C1_5.out ?s3 C1_6.out ?s4 C1_8.out ?s5 C1_9.out K2.out).mono ?_); (case s1 => exact Kd.C_below R1_4.out HB.out); (case s2 => exact Kd.C_below R1_5.out HB.out); (case s3 => exact Kd.C_below R1_6.out HB.out); (case s4 => exact Kd.C_below R1_8.out HB.out); (case s5 => exact Kd.C_below R1_9.out HB.out)); rintro e w6 ⟨rfl, hb⟩; have n0_ := zA (blk_below BA.out hb); have n1_ := zA (blk_below BB.out hb); have n2_ := zA (blk_below FA.out hb); have n3_ := zA (blk_below FB.out hb); have n9_ := zA (below_step HB.out hb); clear p0 p1 p2 p3 p4 p5 p6 p7 p8 p9 q0 q1 q2 q3 q4 q5 q6 q7 q8 q9 f0 f1 f2 f3 f4 g0 g1 g2 g3 g4; clear BA BB FA FB HB; have BA := n0_; have BB := n1_; have FA := n2_; have FB := n3_; have HB := n9_; clear n0_ n1_ n2_ n3_ n9_; clear hb; obtain ⟨⟨p0, p1, p2, p3, p4⟩, p5, p6, p7, p8, p9⟩ := cells10 BA.out; obtain ⟨⟨q0, q1, q2, q3, q4⟩, q5, q6, q7, q8, q9⟩ := cells10 BB.out; obtain ⟨f0, f1, f2, f3, f4⟩ := cells5 FA.out; obtain ⟨g0, g1, g2, g3, g4⟩ := cells5 FB.out))
   go_ret
   exact ⟨by rw [HM.out]; first | rfl | simp, HB.out⟩
  have hb_1 : (a0_1 == a1_1) = true := beq_iff_eq.mpr hq
  rw [show decide (a0_1 = a1_1) = true from zT hq, Bool.true_and] at HM
  clear hq
  by_cases hq : a0_2 = a1_2
  rotate_left
  ·have hb_ : (a0_2 == a1_2) = false := beq_eq_false_iff_ne.mpr hq
   rw [show decide (a0_2 = a1_2) = false from decide_eq_false hq] at HM
   clear hq
   go_wp2_with (first | (go_at_call 22; go_loud ((with_reducible refine (impl_StreamOk.calls a0_0 a0_1 a0_2 a0_3 _ _ l0_4 _ _ l0_5 _ _ l0_6 a0_7 _ _ l0_8 _ _ l0_9 _ _ ?s1 C0_4.out ?s2 C0_5.out ?s3 C0_6.out ?s4 C0_8.out ?s5 C0_9.out K1.out).mono ?_); (case s1 => exact Kd.C_below R0_4.out HB.out); (case s2 => exact Kd.C_below R0_5.out HB.out); (case s3 => exact Kd.C_below R0_6.out HB.out); (case s4 => exact Kd.C_below R0_8.out HB.out); (case s5 => exact Kd.C_below R0_9.out HB.out)); rintro e w6 ⟨rfl, hb⟩; have n0_ := zA (blk_below BA.out hb); have n1_ := zA (blk_below BB.out hb); have n2_ := zA (blk_below FA.out hb); have n3_ := zA (blk_below FB.out hb); have n9_ := zA (below_step HB.out hb); clear p0 p1 p2 p3 p4 p5 p6 p7 p8 p9 q0 q1 q2 q3 q4 q5 q6 q7 q8 q9 f0 f1 f2 f3 f4 g0 g1 g2 g3 g4; clear BA BB FA FB HB; have BA := n0_; have BB := n1_; have FA := n2_; have FB := n3_; have HB := n9_; clear n0_ n1_ n2_ n3_ n9_; clear hb; obtain ⟨⟨p0, p1, p2, p3, p4⟩, p5, p6, p7, p8, p9⟩ := cells10 BA.out; obtain ⟨⟨q0, q1, q2, q3, q4⟩, q5, q6, q7, q8, q9⟩ := cells10 BB.out; obtain ⟨f0, f1, f2, f3, f4⟩ := cells5 FA.out; obtain ⟨g0, g1, g2, g3, g4⟩ := cells5 FB.out) | (go_at_call 22; go_loud ((with_reducible refine (impl_StreamOk.calls a1_0 a1_1 a1_2 a1_3 _ _ l1_4 _ _ l1_5 _ _ l1_6 a1_7 _ _ l1_8 _ _ l1_9 _ _ ?s1 C1_4.out ?s2 C1_5.out ?s3 C1_6.out ?s4 C1_8.out ?s5 C1_9.out K2.out).mono ?_); (case s1 => exact Kd.C_below R1_4.out HB.out); (case s2 => exact Kd.C_below R1_5.out HB.out); (case s3 => exact Kd.C_below R1_6.out HB.out); (case s4 => exact Kd.C_below R1_8.out HB.out); (case s5 => exact Kd.C_below R1_9.out HB.out)); rintro e w6 ⟨rfl, hb⟩; have n0_ := zA (blk_below BA.out hb); have n1_ := zA (blk_below BB.out hb); have n2_ := zA (blk_below FA.out hb); have n3_ := zA (blk_below FB.out hb); have n9_ := zA (below_step HB.out hb); clear p0 p1 p2 p3 p4 p5 p6 p7 p8 p9 q0 q1 q2 q3 q4 q5 q6 q7 q8 q9 f0 f1 f2 f3 f4 g0 g1 g2 g3 g4; clear BA BB FA FB HB; have BA := n0_; have BB := n1_; have FA := n2_; have FB := n3_; have HB := n9_; clear n0_ n1_ n2_ n3_ n9_; clear hb; obtain ⟨⟨p0, p1, p2, p3, p4⟩, p5, p6, p7, p8, p9⟩ := cells10 BA.out; obtain ⟨⟨q0, q1, q2, q3, q4⟩, q5, q6, q7, q8, q9⟩ := cells10 BB.out; obtain ⟨f0, f1, f2, f3, f4⟩ := cells5 FA.out; obtain ⟨g0, g1, g2, g3, g4⟩ := cells5 FB.out))
   go_ret
   exact ⟨by rw [HM.out]; first | rfl | simp, HB.out⟩
  have hb_2 : (a0_2 == a1_2) = true := beq_iff_eq.mpr hq
  rw [show decide (a0_2 = a1_2) = true from zT hq, Bool.true_and] at HM
  clear hq
  cases hq : eqComps l0_4 l1_4
  ·rw [hq] at HM K3
   clear hq
   go_wp2_with (first | (go_at_call 22; go_loud ((with_reducible refine (impl_StreamOk.calls a0_0 a0_1 a0_2 a0_3 _ _ l0_4 _ _ l0_5 _ _ l0_6 a0_7 _ _ l0_8 _ _ l0_9 _ _ ?s1 C0_4.out ?s2 C0_5.out ?s3 C0_6.out ?s4 C0_8.out ?s5 C0_9.out K1.out).mono ?_); (case s1 => exact Kd.C_below R0_4.out HB.out); (case s2 => exact Kd.C_below R0_5.out HB.out); (case s3 => exact Kd.C_below R0_6.out HB.out); (case s4 => exact Kd.C_below R0_8.out HB.out); (case s5 => exact Kd.C_below R0_9.out HB.out)); rintro e w6 ⟨rfl, hb⟩; have n0_ := zA (blk_below BA.out hb); have n1_ := zA (blk_below BB.out hb); have n2_ := zA (blk_below FA.out hb); have n3_ := zA (blk_below FB.out hb); have n9_ := zA (below_step HB.out hb); clear p0 p1 p2 p3 p4 p5 p6 p7 p8 p9 q0 q1 q2 q3 q4 q5 q6 q7 q8 q9 f0 f1 f2 f3 f4 g0 g1 g2 g3 g4; clear BA BB FA FB HB; have BA := n0_; have BB := n1_; have FA := n2_; have FB := n3_; have HB := n9_; clear n0_ n1_ n2_ n3_ n9_; clear hb; obtain ⟨⟨p0, p1, p2, p3, p4⟩, p5, p6, p7, p8, p9⟩ := cells10 BA.out; obtain ⟨⟨q0, q1, q2, q3, q4⟩, q5, q6, q7, q8, q9⟩ := cells10 BB.out; obtain ⟨f0, f1, f2, f3, f4⟩ := cells5 FA.out; obtain ⟨g0, g1, g2, g3, g4⟩ := cells5 FB.out) | (go_at_call 22; go_loud ((with_reducible refine (impl_StreamOk.calls a1_0 a1_1 a1_2 a1_3 _ _ l1_4 _ _ l1_5 _ _ l1_6 a1_7 _ _ l1_8 _ _ l1_9 _ _ ?s1 C1_4.out ?s2 C1_5.out ?s3 C1_6.out ?s4 C1_8.out ?s5 C1_9.out K2.out).mono ?_); (case s1 => exact Kd.C_below R1_4.out HB.out); (case s2 => exact Kd.C_below R1_5.out HB.out); (case s3 => exact Kd.C_below R1_6.out HB.out); (case s4 => exact Kd.C_below R1_8.out HB.out); (case s5 => exact Kd.C_below R1_9.out HB.out)); rintro e w6 ⟨rfl, hb⟩; have n0_ := zA (blk_below BA.out hb); have n1_ := zA (blk_below BB.out hb); have n2_ := zA (blk_below FA.out hb); have n3_ := zA (blk_below FB.out hb); have n9_ := zA (below_step HB.out hb); clear p0 p1 p2 p3 p4 p5 p6 p7 p8 p9 q0 q1 q2 q3 q4 q5 q6 q7 q8 q9 f0 f1 f2 f3 f4 g0 g1 g2 g3 g4; clear BA BB FA FB HB; have BA := n0_; have BB := n1_; have FA := n2_; have FB := n3_; have HB := n9_; clear n0_ n1_ n2_ n3_ n9_; clear hb; obtain ⟨⟨p0, p1, p2, p3, p4⟩, p5, p6, p7, p8, p9⟩ := cells10 BA.out; obtain ⟨⟨q0, q1, q2, q3, q4⟩, q5, q6, q7, q8, q9⟩ := cells10 BB.out; obtain ⟨f0, f1, f2, f3, f4⟩ := cells5 FA.out; obtain ⟨g0, g1, g2, g3, g4⟩ := cells5 FB.out) | (go_at_call 23; go_loud ((with_reducible refine (impl_Comp_23.calls kc _ _ l0_4 _ _ l1_4 _ _ ?s1 C0_4.out ?s2 C1_4.out K3.out).mono ?_); (case s1 => exact Kd.C_below R0_4.out HB.out); (case s2 => exact Kd.C_below R1_4.out HB.out)); rintro e w6 ⟨rfl, ⟨nd, rfl⟩⟩; have n0_ := zA (show _ from zG BA.out nd); have n1_ := zA (show _ from zG BB.out nd); have n2_ := zA (show _ from zG FA.out nd); have n3_ := zA (show _ from zG FB.out nd); have n9_ := zA (zB HB.out nd); clear p0 p1 p2 p3 p4 p5 p6 p7 p8 p9 q0 q1 q2 q3 q4 q5 q6 q7 q8 q9 f0 f1 f2 f3 f4 g0 g1 g2 g3 g4; clear BA BB FA FB HB; have BA := n0_; have BB := n1_; have FA := n2_; have FB := n3_; have HB := n9_; clear n0_ n1_ n2_ n3_ n9_; generalize w6.drewN nd = w7 at BA BB FA FB HB ⊢; obtain ⟨⟨p0, p1, p2, p3, p4⟩, p5, p6, p7, p8, p9⟩ := cells10 BA.out; obtain ⟨⟨q0, q1, q2, q3, q4⟩, q5, q6, q7, q8, q9⟩ := cells10 BB.out; obtain ⟨f0, f1, f2, f3, f4⟩ := cells5 FA.out; obtain ⟨g0, g1, g2, g3, g4⟩ := cells5 FB.out))
   go_ret
   exact ⟨by rw [HM.out]; first | rfl | simp, HB.out⟩
  rw [hq] at HM K3
  clear hq
  rw [Bool.true_and] at HM
  cases hq : (l0_5 == l1_5)
  ·rw [hq] at HM K4
   clear hq
   go_wp2_with (first | (go_at_call 22; go_loud ((with_reducible refine (impl_StreamOk.calls a0_0 a0_1 a0_2 a0_3 _ _ l0_4 _ _ l0_5 _ _ l0_6 a0_7 _ _ l0_8 _ _ l0_9 _ _ ?s1 C0_4.out ?s2 C0_5.out ?s3 C0_6.out ?s4 C0_8.out ?s5 C0_9.out K1.out).mono ?_); (case s1 => exact Kd.C_below R0_4.out HB.out); (case s2 => exact Kd.C_below R0_5.out HB.out); (case s3 => exact Kd.C_below R0_6.out HB.out); (case s4 => exact Kd.C_below R0_8.out HB.out); (case s5 => exact Kd.C_below R0_9.out HB.out)); rintro e w6 ⟨rfl, hb⟩; have n0_ := zA (blk_below BA.out hb); have n1_ := zA (blk_below BB.out hb); have n2_ := zA (blk_below FA.out hb); have n3_ := zA (blk_below FB.out hb); have n9_ := zA (below_step HB.out hb); clear p0 p1 p2 p3 p4 p5 p6 p7 p8 p9 q0 q1 q2 q3 q4 q5 q6 q7 q8 q9 f0 f1 f2 f3 f4 g0 g1 g2 g3 g4; clear BA BB FA FB HB; have BA := n0_; have BB := n1_; have FA := n2_; have FB := n3_; have HB := n9_; clear n0_ n1_ n2_ n3_ n9_; clear hb; obtain ⟨⟨p0, p1, p2, p3, p4⟩, p5, p6, p7, p8, p9⟩ := cells10 BA.out; obtain ⟨⟨q0, q1, q2, q3, q4⟩, q5, q6, q7, q8, q9⟩ := cells10 BB.out; obtain ⟨f0, f1, f2, f3, f4⟩ := cells5 FA.out; obtain ⟨g0, g1, g2, g3, g4⟩ := cells5 FB.out) | (go_at_call 22; go_loud ((with_reducible refine (impl_StreamOk.calls a1_0 a1_1 a1_2 a1_3 _ _ l1_4 _ _ l1_5 _ _ l1_6 a1_7 _ _ l1_8 _ _ l1_9 _ _ ?s1 C1_4.out ?s2 C1_5.out ?s3 C1_6.out ?s4 C1_8.out ?s5 C1_9.out K2.out).mono ?_); (case s1 => exact Kd.C_below R1_4.out HB.out); (case s2 => exact Kd.C_below R1_5.out HB.out); (case s3 => exact Kd.C_below R1_6.out HB.out); (case s4 => exact Kd.C_below R1_8.out HB.out); (case s5 => exact Kd.C_below R1_9.out HB.out)); rintro e w6 ⟨rfl, hb⟩; have n0_ := zA (blk_below BA.out hb); have n1_ := zA (blk_below BB.out hb); have n2_ := zA (blk_below FA.out hb); have n3_ := zA (blk_below FB.out hb); have n9_ := zA (below_step HB.out hb); clear p0 p1 p2 p3 p4 p5 p6 p7 p8 p9 q0 q1 q2 q3 q4 q5 q6 q7 q8 q9 f0 f1 f2 f3 f4 g0 g1 g2 g3 g4; clear BA BB FA FB HB; have BA := n0_; have BB := n1_; have FA := n2_; have FB := n3_; have HB := n9_; clear n0_ n1_ n2_ n3_ n9_; clear hb; obtain ⟨⟨p0, p1, p2, p3, p4⟩, p5, p6, p7, p8, p9⟩ := cells10 BA.out; obtain ⟨⟨q0, q1, q2, q3, q4⟩, q5, q6, q7, q8, q9⟩ := cells10 BB.out; obtain ⟨f0, f1, f2, f3, f4⟩ := cells5 FA.out; obtain ⟨g0, g1, g2, g3, g4⟩ := cells5 FB.out) | (go_at_call 23; go_loud ((with_reducible refine (impl_Comp_23.calls kc _ _ l0_4 _ _ l1_4 _ _ ?s1 C0_4.out ?s2 C1_4.out K3.out).mono ?_); (case s1 => exact Kd.C_below R0_4.out HB.out); (case s2 => exact Kd.C_below R1_4.out HB.out)); rintro e w6 ⟨rfl, ⟨nd, rfl⟩⟩; have n0_ := zA (show _ from zG BA.out nd); have n1_ := zA (show _ from zG BB.out nd); have n2_ := zA (show _ from zG FA.out nd); have n3_ := zA (show _ from zG FB.out nd); have n9_ := zA (zB HB.out nd); clear p0 p1 p2 p3 p4 p5 p6 p7 p8 p9 q0 q1 q2 q3 q4 q5 q6 q7 q8 q9 f0 f1 f2 f3 f4 g0 g1 g2 g3 g4; clear BA BB FA FB HB; have BA := n0_; have BB := n1_; have FA := n2_; have FB := n3_; have HB := n9_; clear n0_ n1_ n2_ n3_ n9_; generalize w6.drewN nd = w7 at BA BB FA FB HB ⊢; obtain ⟨⟨p0, p1, p2, p3, p4⟩, p5, p6, p7, p8, p9⟩ := cells10 BA.out; obtain ⟨⟨q0, q1, q2, q3, q4⟩, q5, q6, q7, q8, q9⟩ := cells10 BB.out; obtain ⟨f0, f1, f2, f3, f4⟩ := cells5 FA.out; obtain ⟨g0, g1, g2, g3, g4⟩ := cells5 FB.out) | (go_at_call 24; go_loud ((with_reducible refine (impl_sameLists.calls _ _ l0_5 _ _ l1_5 _ _ ?s1 C0_5.out ?s2 C1_5.out K4.out).mono ?_); (case s1 => exact Kd.C_below R0_5.out HB.out); (case s2 => exact Kd.C_below R1_5.out HB.out)); rintro e w6 ⟨rfl, hb⟩; have n0_ := zA (blk_below BA.out hb); have n1_ := zA (blk_below BB.out hb); have n2_ := zA (blk_below FA.out hb); have n3_ := zA (blk_below FB.out hb); have n9_ := zA (below_step HB.out hb); clear p0 p1 p2 p3 p4 p5 p6 p7 p8 p9 q0 q1 q2 q3 q4 q5 q6 q7 q8 q9 f0 f1 f2 f3 f4 g0 g1 g2 g3 g4; clear BA BB FA FB HB; have BA := n0_; have BB := n1_; have FA := n2_; have FB := n3_; have HB := n9_; clear n0_ n1_ n2_ n3_ n9_; clear hb; obtain ⟨⟨p0, p1, p2, p3, p4⟩, p5, p6, p7, p8, p9⟩ := cells10 BA.out; obtain ⟨⟨q0, q1, q2, q3, q4⟩, q5, q6, q7, q8, q9⟩ := cells10 BB.out; obtain ⟨f0, f1, f2, f3, f4⟩ := cells5 FA.out; obtain ⟨g0, g1, g2, g3, g4⟩ := cells5 FB.out))
   go_ret
   exact ⟨by rw [HM.out]; first | rfl | simp, HB.out⟩
  rw [hq] at HM K4
  clear hq
  rw [Bool.true_and] at HM
  cases hq : (l0_6 == l1_6)
  ·rw [hq] at HM
   have KP := zA hq
   clear hq
   go_wp2_with (first | (go_at_call 22; go_loud ((with_reducible refine (impl_StreamOk.calls a0_0 a0_1 a0_2 a0_3 _ _ l0_4 _ _ l0_5 _ _ l0_6 a0_7 _ _ l0_8 _ _ l0_9 _ _ ?s1 C0_4.out ?s2 C0_5.out ?s3 C0_6.out ?s4 C0_8.out ?s5 C0_9.out K1.out).mono ?_); (case s1 => exact Kd.C_below R0_4.out HB.out); (case s2 => exact Kd.C_below R0_5.out HB.out); (case s3 => exact Kd.C_below R0_6.out HB.out); (case s4 => exact Kd.C_below R0_8.out HB.out); (case s5 => exact Kd.C_below R0_9.out HB.out)); rintro e w6 ⟨rfl, hb⟩; have n0_ := zA (blk_below BA.out hb); have n1_ := zA (blk_below BB.out hb); have n2_ := zA (blk_below FA.out hb); have n3_ := zA (blk_below FB.out hb); have n9_ := zA (below_step HB.out hb); clear p0 p1 p2 p3 p4 p5 p6 p7 p8 p9 q0 q1 q2 q3 q4 q5 q6 q7 q8 q9 f0 f1 f2 f3 f4 g0 g1 g2 g3 g4; clear BA BB FA FB HB; have BA := n0_; have BB := n1_; have FA := n2_; have FB := n3_; have HB := n9_; clear n0_ n1_ n2_ n3_ n9_; clear hb; obtain ⟨⟨p0, p1, p2, p3, p4⟩, p5, p6, p7, p8, p9⟩ := cells10 BA.out; obtain ⟨⟨q0, q1, q2, q3, q4⟩, q5, q6, q7, q8, q9⟩ := cells10 BB.out; obtain ⟨f0, f1, f2, f3, f4⟩ := cells5 FA.out; obtain ⟨g0, g1, g2, g3, g4⟩ := cells5 FB.out) | (go_at_call 22; go_loud ((with_reducible refine (impl_StreamOk.calls a1_0 a1_1 a1_2 a1_3 _ _ l1_4 _ _ l1_5 _ _ l1_6 a1_7 _ _ l1_8 _ _ l1_9 _ _ ?s1 C1_4.out ?s2 C1_5.out ?s3 C1_6.out ?s4 C1_8.out ?s5 C1_9.out K2.out).mono ?_); (case s1 => exact Kd.C_below R1_4.out HB.out); (case s2 => exact Kd.C_below R1_5.out HB.out); (case s3 => exact Kd.C_below R1_6.out HB.out); (case s4 => exact Kd.C_below R1_8.out HB.out); (case s5 => exact Kd.C_below R1_9.out HB.out)); rintro e w6 ⟨rfl, hb⟩; have n0_ := zA (blk_below BA.out hb); have n1_ := zA (blk_below BB.out hb); have n2_ := zA (blk_below FA.out hb); have n3_ := zA (blk_below FB.out hb); have n9_ := zA (below_step HB.out hb); clear p0 p1 p2 p3 p4 p5 p6 p7 p8 p9 q0 q1 q2 q3 q4 q5 q6 q7 q8 q9 f0 f1 f2 f3 f4 g0 g1 g2 g3 g4; clear BA BB FA FB HB; have BA := n0_; have BB := n1_; have FA := n2_; have FB := n3_; have HB := n9_; clear n0_ n1_ n2_ n3_ n9_; clear hb; obtain ⟨⟨p0, p1, p2, p3, p4⟩, p5, p6, p7, p8, p9⟩ := cells10 BA.out; obtain ⟨⟨q0, q1, q2, q3, q4⟩, q5, q6, q7, q8, q9⟩ := cells10 BB.out; obtain ⟨f0, f1, f2, f3, f4⟩ := cells5 FA.out; obtain ⟨g0, g1, g2, g3, g4⟩ := cells5 FB.out) | (go_at_call 23; go_loud ((with_reducible refine (impl_Comp_23.calls kc _ _ l0_4 _ _ l1_4 _ _ ?s1 C0_4.out ?s2 C1_4.out K3.out).mono ?_); (case s1 => exact Kd.C_below R0_4.out HB.out); (case s2 => exact Kd.C_below R1_4.out HB.out)); rintro e w6 ⟨rfl, ⟨nd, rfl⟩⟩; have n0_ := zA (show _ from zG BA.out nd); have n1_ := zA (show _ from zG BB.out nd); have n2_ := zA (show _ from zG FA.out nd); have n3_ := zA (show _ from zG FB.out nd); have n9_ := zA (zB HB.out nd); clear p0 p1 p2 p3 p4 p5 p6 p7 p8 p9 q0 q1 q2 q3 q4 q5 q6 q7 q8 q9 f0 f1 f2 f3 f4 g0 g1 g2 g3 g4; clear BA BB FA FB HB; have BA := n0_; have BB := n1_; have FA := n2_; have FB := n3_; have HB := n9_; clear n0_ n1_ n2_ n3_ n9_; generalize w6.drewN nd = w7 at BA BB FA FB HB ⊢; obtain ⟨⟨p0, p1, p2, p3, p4⟩, p5, p6, p7, p8, p9⟩ := cells10 BA.out; obtain ⟨⟨q0, q1, q2, q3, q4⟩, q5, q6, q7, q8, q9⟩ := cells10 BB.out; obtain ⟨f0, f1, f2, f3, f4⟩ := cells5 FA.out; obtain ⟨g0, g1, g2, g3, g4⟩ := cells5 FB.out) | (go_at_call 24; go_loud ((with_reducible refine (impl_sameLists.calls _ _ l0_5 _ _ l1_5 _ _ ?s1 C0_5.out ?s2 C1_5.out K4.out).mono ?_); (case s1 => exact Kd.C_below R0_5.out HB.out); (case s2 => exact Kd.C_below R1_5.out HB.out)); rintro e w6 ⟨rfl, hb⟩; have n0_ := zA (blk_below BA.out hb); have n1_ := zA (blk_below BB.out hb); have n2_ := zA (blk_below FA.out hb); have n3_ := zA (blk_below FB.out hb); have n9_ := zA (below_step HB.out hb); clear p0 p1 p2 p3 p4 p5 p6 p7 p8 p9 q0 q1 q2 q3 q4 q5 q6 q7 q8 q9 f0 f1 f2 f3 f4 g0 g1 g2 g3 g4; clear BA BB FA FB HB; have BA := n0_; have BB := n1_; have FA := n2_; have FB := n3_; have HB := n9_; clear n0_ n1_ n2_ n3_ n9_; clear hb; obtain ⟨⟨p0, p1, p2, p3, p4⟩, p5, p6, p7, p8, p9⟩ := cells10 BA.out; obtain ⟨⟨q0, q1, q2, q3, q4⟩, q5, q6, q7, q8, q9⟩ := cells10 BB.out; obtain ⟨f0, f1, f2, f3, f4⟩ := cells5 FA.out; obtain ⟨g0, g1, g2, g3, g4⟩ := cells5 FB.out) | (go_at_call 25; go_loud ((with_reducible refine (eqf_EqPlane _ _ _ _ l0_6 _ _ l1_6 _ (same_plane _) K5.out K6.out ?s1 C0_6.out ?s2 C1_6.out K7.out).mono ?_); (case s1 => exact Kd.C_below R0_6.out HB.out); (case s2 => exact Kd.C_below R1_6.out HB.out)); rintro e w6 ⟨rfl, hb⟩; rw [KP.out]; have n0_ := zA (blk_below BA.out hb); have n1_ := zA (blk_below BB.out hb); have n2_ := zA (blk_below FA.out hb); have n3_ := zA (blk_below FB.out hb); have n9_ := zA (below_step HB.out hb); clear p0 p1 p2 p3 p4 p5 p6 p7 p8 p9 q0 q1 q2 q3 q4 q5 q6 q7 q8 q9 f0 f1 f2 f3 f4 g0 g1 g2 g3 g4; clear BA BB FA FB HB; have BA := n0_; have BB := n1_; have FA := n2_; have FB := n3_; have HB := n9_; clear n0_ n1_ n2_ n3_ n9_; clear hb; obtain ⟨⟨p0, p1, p2, p3, p4⟩, p5, p6, p7, p8, p9⟩ := cells10 BA.out; obtain ⟨⟨q0, q1, q2, q3, q4⟩, q5, q6, q7, q8, q9⟩ := cells10 BB.out; obtain ⟨f0, f1, f2, f3, f4⟩ := cells5 FA.out; obtain ⟨g0, g1, g2, g3, g4⟩ := cells5 FB.out))
   go_ret
   exact ⟨by rw [HM.out]; first | rfl | simp, HB.out⟩
  rw [hq] at HM
  have KP := zA hq
  clear hq
  rw [Bool.true_and] at HM
  cases hq : (l0_9 == l1_9)
  all_goals
   rw [hq] at HM K8
   clear hq
   go_wp2_with (first | (go_at_call 22; go_loud ((with_reducible refine (impl_StreamOk.calls a0_0 a0_1 a0_2 a0_3 _ _ l0_4 _ _ l0_5 _ _ l0_6 a0_7 _ _ l0_8 _ _ l0_9 _ _ ?s1 C0_4.out ?s2 C0_5.out ?s3 C0_6.out ?s4 C0_8.out ?s5 C0_9.out K1.out).mono ?_); (case s1 => exact Kd.C_below R0_4.out HB.out); (case s2 => exact Kd.C_below R0_5.out HB.out); (case s3 => exact Kd.C_below R0_6.out HB.out); (case s4 => exact Kd.C_below R0_8.out HB.out); (case s5 => exact Kd.C_below R0_9.out HB.out)); rintro e w6 ⟨rfl, hb⟩; have n0_ := zA (blk_below BA.out hb); have n1_ := zA (blk_below BB.out hb); have n2_ := zA (blk_below FA.out hb); have n3_ := zA (blk_below FB.out hb); have n9_ := zA (below_step HB.out hb); clear p0 p1 p2 p3 p4 p5 p6 p7 p8 p9 q0 q1 q2 q3 q4 q5 q6 q7 q8 q9 f0 f1 f2 f3 f4 g0 g1 g2 g3 g4; clear BA BB FA FB HB; have BA := n0_; have BB := n1_; have FA := n2_; have FB := n3_; have HB := n9_; clear n0_ n1_ n2_ n3_ n9_; clear hb; obtain ⟨⟨p0, p1, p2, p3, p4⟩, p5, p6, p7, p8, p9⟩ := cells10 BA.out; obtain ⟨⟨q0, q1, q2, q3, q4⟩, q5, q6, q7, q8, q9⟩ := cells10 BB.out; obtain ⟨f0, f1, f2, f3, f4⟩ := cells5 FA.out; obtain ⟨g0, g1, g2, g3, g4⟩ := cells5 FB.out) | (go_at_call 22; go_loud ((with_reducible refine (impl_StreamOk.calls a1_0 a1_1 a1_2 a1_3 _ _ l1_4 _ _ l1_5 _ _ l1_6 a1_7 _ _ l1_8 _ _ l1_9 _ _ ?s1 C1_4.out ?s2 C1_5.out ?s3 C1_6.out ?s4 C1_8.out ?s5 C1_9.out K2.out).mono ?_); (case s1 => exact Kd.C_below R1_4.out HB.out); (case s2 => exact Kd.C_below R1_5.out HB.out); (case s3 => exact Kd.C_below R1_6.out HB.out); (case s4 => exact Kd.C_below R1_8.out HB.out); (case s5 => exact Kd.C_below R1_9.out HB.out)); rintro e w6 ⟨rfl, hb⟩; have n0_ := zA (blk_below BA.out hb); have n1_ := zA (blk_below BB.out hb); have n2_ := zA (blk_below FA.out hb); have n3_ := zA (blk_below FB.out hb); have n9_ := zA (below_step HB.out hb); clear p0 p1 p2 p3 p4 p5 p6 p7 p8 p9 q0 q1 q2 q3 q4 q5 q6 q7 q8 q9 f0 f1 f2 f3 f4 g0 g1 g2 g3 g4; clear BA BB FA FB HB; have BA := n0_; have BB := n1_; have FA := n2_; have FB := n3_; have HB := n9_; clear n0_ n1_ n2_ n3_ n9_; clear hb; obtain ⟨⟨p0, p1, p2, p3, p4⟩, p5, p6, p7, p8, p9⟩ := cells10 BA.out; obtain ⟨⟨q0, q1, q2, q3, q4⟩, q5, q6, q7, q8, q9⟩ := cells10 BB.out; obtain ⟨f0, f1, f2, f3, f4⟩ := cells5 FA.out; obtain ⟨g0, g1, g2, g3, g4⟩ := cells5 FB.out) | (go_at_call 23; go_loud ((with_reducible refine (impl_Comp_23.calls kc _ _ l0_4 _ _ l1_4 _ _ ?s1 C0_4.out ?s2 C1_4.out K3.out).mono ?_); (case s1 => exact Kd.C_below R0_4.out HB.out); (case s2 => exact Kd.C_below R1_4.out HB.out)); rintro e w6 ⟨rfl, ⟨nd, rfl⟩⟩; have n0_ := zA (show _ from zG BA.out nd); have n1_ := zA (show _ from zG BB.out nd); have n2_ := zA (show _ from zG FA.out nd); have n3_ := zA (show _ from zG FB.out nd); have n9_ := zA (zB HB.out nd); clear p0 p1 p2 p3 p4 p5 p6 p7 p8 p9 q0 q1 q2 q3 q4 q5 q6 q7 q8 q9 f0 f1 f2 f3 f4 g0 g1 g2 g3 g4; clear BA BB FA FB HB; have BA := n0_; have BB := n1_; have FA := n2_; have FB := n3_; have HB := n9_; clear n0_ n1_ n2_ n3_ n9_; generalize w6.drewN nd = w7 at BA BB FA FB HB ⊢; obtain ⟨⟨p0, p1, p2, p3, p4⟩, p5, p6, p7, p8, p9⟩ := cells10 BA.out; obtain ⟨⟨q0, q1, q2, q3, q4⟩, q5, q6, q7, q8, q9⟩ := cells10 BB.out; obtain ⟨f0, f1, f2, f3, f4⟩ := cells5 FA.out; obtain ⟨g0, g1, g2, g3, g4⟩ := cells5 FB.out) | (go_at_call 24; go_loud ((with_reducible refine (impl_sameLists.calls _ _ l0_5 _ _ l1_5 _ _ ?s1 C0_5.out ?s2 C1_5.out K4.out).mono ?_); (case s1 => exact Kd.C_below R0_5.out HB.out); (case s2 => exact Kd.C_below R1_5.out HB.out)); rintro e w6 ⟨rfl, hb⟩; have n0_ := zA (blk_below BA.out hb); have n1_ := zA (blk_below BB.out hb); have n2_ := zA (blk_below FA.out hb); have n3_ := zA (blk_below FB.out hb); have n9_ := zA (below_step HB.out hb); clear p0 p1 p2 p3 p4 p5 p6 p7 p8 p9 q0 q1 q2 q3 q4 q5 q6 q7 q8 q9 f0 f1 f2 f3 f4 g0 g1 g2 g3 g4; clear BA BB FA FB HB; have BA := n0_; have BB := n1_; have FA := n2_; have FB := n3_; have HB := n9_; clear n0_ n1_ n2_ n3_ n9_; clear hb; obtain ⟨⟨p0, p1, p2, p3, p4⟩, p5, p6, p7, p8, p9⟩ := cells10 BA.out; obtain ⟨⟨q0, q1, q2, q3, q4⟩, q5, q6, q7, q8, q9⟩ := cells10 BB.out; obtain ⟨f0, f1, f2, f3, f4⟩ := cells5 FA.out; obtain ⟨g0, g1, g2, g3, g4⟩ := cells5 FB.out) | (go_at_call 25; go_loud ((with_reducible refine (eqf_EqPlane _ _ _ _ l0_6 _ _ l1_6 _ (same_plane _) K5.out K6.out ?s1 C0_6.out ?s2 C1_6.out K7.out).mono ?_); (case s1 => exact Kd.C_below R0_6.out HB.out); (case s2 => exact Kd.C_below R1_6.out HB.out)); rintro e w6 ⟨rfl, hb⟩; rw [KP.out]; have n0_ := zA (blk_below BA.out hb); have n1_ := zA (blk_below BB.out hb); have n2_ := zA (blk_below FA.out hb); have n3_ := zA (blk_below FB.out hb); have n9_ := zA (below_step HB.out hb); clear p0 p1 p2 p3 p4 p5 p6 p7 p8 p9 q0 q1 q2 q3 q4 q5 q6 q7 q8 q9 f0 f1 f2 f3 f4 g0 g1 g2 g3 g4; clear BA BB FA FB HB; have BA := n0_; have BB := n1_; have FA := n2_; have FB := n3_; have HB := n9_; clear n0_ n1_ n2_ n3_ n9_; clear hb; obtain ⟨⟨p0, p1, p2, p3, p4⟩, p5, p6, p7, p8, p9⟩ := cells10 BA.out; obtain ⟨⟨q0, q1, q2, q3, q4⟩, q5, q6, q7, q8, q9⟩ := cells10 BB.out; obtain ⟨f0, f1, f2, f3, f4⟩ := cells5 FA.out; obtain ⟨g0, g1, g2, g3, g4⟩ := cells5 FB.out) | (go_at_call 26; go_loud ((with_reducible refine (slices_Equal_byte_byte.calls kn _ _ l0_9 _ _ l1_9 _ _ ?s1 C0_9.out ?s2 C1_9.out K8.out).mono ?_); (case s1 => exact Kd.C_below R0_9.out HB.out); (case s2 => exact Kd.C_below R1_9.out HB.out)); rintro e w6 ⟨rfl, ⟨nd, rfl⟩⟩; have n0_ := zA (show _ from zG BA.out nd); have n1_ := zA (show _ from zG BB.out nd); have n2_ := zA (show _ from zG FA.out nd); have n3_ := zA (show _ from zG FB.out nd); have n9_ := zA (zB HB.out nd); clear p0 p1 p2 p3 p4 p5 p6 p7 p8 p9 q0 q1 q2 q3 q4 q5 q6 q7 q8 q9 f0 f1 f2 f3 f4 g0 g1 g2 g3 g4; clear BA BB FA FB HB; have BA := n0_; have BB := n1_; have FA := n2_; have FB := n3_; have HB := n9_; clear n0_ n1_ n2_ n3_ n9_; generalize w6.drewN nd = w7 at BA BB FA FB HB ⊢; obtain ⟨⟨p0, p1, p2, p3, p4⟩, p5, p6, p7, p8, p9⟩ := cells10 BA.out; obtain ⟨⟨q0, q1, q2, q3, q4⟩, q5, q6, q7, q8, q9⟩ := cells10 BB.out; obtain ⟨f0, f1, f2, f3, f4⟩ := cells5 FA.out; obtain ⟨g0, g1, g2, g3, g4⟩ := cells5 FB.out))
   go_ret
   exact ⟨by rw [HM.out]; first | rfl | simp, HB.out⟩
set_option maxRecDepth 100000 in
theorem impl_SameStream.calls (a0_0 a0_1 a0_2 a0_3 : Int) (A0_4 : Option Addr) (c0_4 : Nat) (l0_4 : List S53) (A0_5 : Option Addr) (c0_5 : Nat) (l0_5 : List (List Int)) (A0_6 : Option Addr) (c0_6 : Nat) (l0_6 : List (List (List Int))) (a0_7 : Int) (A0_8 : Option Addr) (c0_8 : Nat) (l0_8 : List S79) (A0_9 : Option Addr) (c0_9 : Nat) (l0_9 : List Int) (a1_0 a1_1 a1_2 a1_3 : Int) (A1_4 : Option Addr) (c1_4 : Nat) (l1_4 : List S53) (A1_5 : Option Addr) (c1_5 : Nat) (l1_5 : List (List Int)) (A1_6 : Option Addr) (c1_6 : Nat) (l1_6 : List (List (List Int))) (a1_7 : Int) (A1_8 : Option Addr) (c1_8 : Nat) (l1_8 : List S79) (A1_9 : Option Addr) (c1_9 : Nat) (l1_9 : List Int) (r : Bool) (w : World)
  (hr0_4 : Kd.C k53 w A0_4 l0_4.length l0_4) (hc0_4 : l0_4.length ≤ c0_4) (hr0_5 : Kd.C (Kd.slice 3 (Kd.int .i64)) w A0_5 l0_5.length l0_5) (hc0_5 : l0_5.length ≤ c0_5) (hr0_6 : Kd.C (Kd.slice 66 (Kd.slice 3 (Kd.int .i64))) w A0_6 l0_6.length l0_6) (hc0_6 : l0_6.length ≤ c0_6) (hr0_8 : Kd.C k79 w A0_8 l0_8.length l0_8) (hc0_8 : l0_8.length ≤ c0_8) (hr0_9 : Kd.C (Kd.int .u8) w A0_9 l0_9.length l0_9) (hc0_9 : l0_9.length ≤ c0_9)
  (hr1_4 : Kd.C k53 w A1_4 l1_4.length l1_4) (hc1_4 : l1_4.length ≤ c1_4) (hr1_5 : Kd.C (Kd.slice 3 (Kd.int .i64)) w A1_5 l1_5.length l1_5) (hc1_5 : l1_5.length ≤ c1_5) (hr1_6 : Kd.C (Kd.slice 66 (Kd.slice 3 (Kd.int .i64))) w A1_6 l1_6.length l1_6) (hc1_6 : l1_6.length ≤ c1_6) (hr1_8 : Kd.C k79 w A1_8 l1_8.length l1_8) (hc1_8 : l1_8.length ≤ c1_8) (hr1_9 : Kd.C (Kd.int .u8) w A1_9 l1_9.length l1_9) (hc1_9 : l1_9.length ≤ c1_9)
  (h : impl_SameStream.f a0_0 a0_1 a0_2 a0_3 l0_4 l0_5 l0_6 a0_7 l0_8 l0_9 a1_0 a1_1 a1_2 a1_3 l1_4 l1_5 l1_6 a1_7 l1_8 l1_9 = some r) :
  Calls Tryz.prog 7 #[.agg #[.int .i64 a0_0, .int .i64 a0_1, .int .i64 a0_2, .int .i64 a0_3, .slice A0_4 l0_4.length c0_4, .slice A0_5 l0_5.length c0_5, .slice A0_6 l0_6.length c0_6, .int .i64 a0_7, .slice A0_8 l0_8.length c0_8, .slice A0_9 l0_9.length c0_9], .agg #[.int .i64 a1_0, .int .i64 a1_1, .int .i64 a1_2, .int .i64 a1_3, .slice A1_4 l1_4.length c1_4, .slice A1_5 l1_5.length c1_5, .slice A1_6 l1_6.length c1_6, .int .i64 a1_7, .slice A1_8 l1_8.length c1_8, .slice A1_9 l1_9.length c1_9]] w fun e w' => e = .returned (.bool r) ∧ Below w.heap.size w w' := by
 unfold impl_SameStream.f at h
 split at h
 ·rename_i hh
  obtain rfl := Option.some.inj h
  exact sameStream_calls a0_0 a0_1 a0_2 a0_3 A0_4 c0_4 l0_4 A0_5 c0_5 l0_5 A0_6 c0_6 l0_6 a0_7 A0_8 c0_8 l0_8 A0_9 c0_9 l0_9 a1_0 a1_1 a1_2 a1_3 A1_4 c1_4 l1_4 A1_5 c1_5 l1_5 A1_6 c1_6 l1_6 a1_7 A1_8 c1_8 l1_8 A1_9 c1_9 l1_9 w hr0_4 hc0_4 hr0_5 hc0_5 hr0_6 hc0_6 hr0_8 hc0_8 hr0_9 hc0_9 hr1_4 hc1_4 hr1_5 hc1_5 hr1_6 hc1_6 hr1_8 hc1_8 hr1_9 hc1_9 hh.1 hh.2
 ·cases h
end Go.Proofs.YtilimpjcdeeaiaaGreat.G


namespace Go.Proofs.YtilimpjcdeeaiaaGreat.G
open Go.RowKit Go.Proofs.YtilimpjcdeeaiaaGreatW.PrintWords Go.Proofs.YtilimpjcdeeaiaaGreatW.PrintLast Go.Proofs.YtilimpjcdeeaiaaGreatW.PrintMore
attribute [local go_sem] max2_int min2_int max_two min_two max_three min_three max_four min_four   -- for this text's walks alone
def laws_eqScan.f (k : Nat) (l0_0 : List Int) (a0_1 : Int) (a0_2 : Int) (a0_3 : Int) (a0_4 : Int) (l1_0 : List Int) (a1_1 : Int) (a1_2 : Int) (a1_3 : Int) (a1_4 : Int) : Option (Bool) := (laws_eqIntS.f k l0_0 l1_0).bind fun t418 => (if t418 = true then (if a0_1 = a1_1 then (if a0_2 = a1_2 then (if a0_3 = a1_3 then (if a0_4 = a1_4 then (some true) else (some false)) else (some false)) else (some false)) else (some false)) else (some false))
set_option maxHeartbeats 8000000 in
set_option maxRecDepth 100000 in
theorem laws_eqScan.calls (k : Nat) (A0_0 : Option Addr) (c0_0 : Nat) (l0_0 : List Int) (a0_1 : Int) (a0_2 : Int) (a0_3 : Int) (a0_4 : Int) (A1_0 : Option Addr) (c1_0 : Nat) (l1_0 : List Int) (a1_1 : Int) (a1_2 : Int) (a1_3 : Int) (a1_4 : Int) (r : Bool) (w : World) (hr0_0 : Kd.C (Kd.int .i64) w A0_0 l0_0.length l0_0) (hc0_0 : l0_0.length ≤ c0_0) (hr1_0 : Kd.C (Kd.int .i64) w A1_0 l1_0.length l1_0) (hc1_0 : l1_0.length ≤ c1_0) (h : laws_eqScan.f k l0_0 a0_1 a0_2 a0_3 a0_4 l1_0 a1_1 a1_2 a1_3 a1_4 = some r) :
  Calls Tryz.prog 56 #[.agg #[.slice A0_0 l0_0.length c0_0, .int .i64 a0_1, .int .i64 a0_2, .int .i64 a0_3, .int .i64 a0_4], .agg #[.slice A1_0 l1_0.length c1_0, .int .i64 a1_1, .int .i64 a1_2, .int .i64 a1_3, .int .i64 a1_4]] w fun e w' => e = .returned (.bool r) ∧ Below w.heap.size w w' := by
 have hu79 := Tryz.underlying79
 have HR0_0 := zA hr0_0
 have HC0_0 := zA hc0_0
 clear hr0_0 hc0_0
 have HR1_0 := zA hr1_0
 have HC1_0 := zA hc1_0
 clear hr1_0 hc1_0
 have HB := zA (Below.refl w.heap.size w)
 have H : ((laws_eqIntS.f k l0_0 l1_0).bind fun t418 => (if t418 = true then (if a0_1 = a1_1 then (if a0_2 = a1_2 then (if a0_3 = a1_3 then (if a0_4 = a1_4 then (some true) else (some false)) else (some false)) else (some false)) else (some false)) else (some false))) = some r := h
 clear h
 replace H := Option.bind_eq_some_iff.mp H
 obtain ⟨t418, A30, H⟩ := H
 try dsimp only at H
 have A3 := zA A30
 clear A30
 have HF4 := zA H
 clear H
 go_enter Tryz.func56, Tryz.ntmps56
 go_upto_if 10 with (first | ((with_reducible refine gate_dst (N := 2) rfl ?_); refine nxX (N := 2) (cs := #[.slice A0_0 l0_0.length c0_0, .int .i64 a0_1, .int .i64 a0_2, .int .i64 a0_3, .int .i64 a0_4]) (t := 79) ?_; intro gb416 hg w5 hbox hb; have n0_ := nxH hb HB; have n1_ := zA (hbox); clear HB; have HB := n0_; have BK416 := n1_; clear n0_ n1_ ; clear hb hbox hg) | ((with_reducible refine gate_dst (N := 3) rfl ?_); refine nxX (N := 3) (cs := #[.slice A1_0 l1_0.length c1_0, .int .i64 a1_1, .int .i64 a1_2, .int .i64 a1_3, .int .i64 a1_4]) (t := 79) ?_; intro gb417 hg w6 hbox hb; have BK417 := zA (hbox); have NB416_417 := nxL BK416 hg; have NB417_416 := nxK BK416 hg; replace BK416 := nxB hb BK416; replace HB := nxH hb HB; clear hb hbox hg; have hnb7 := NB416_417.out; have hnc7 := NB417_416.out; obtain ⟨hcz8_0, hcz8_1, hcz8_2, hcz8_3, hcz8_4⟩ := cz5 BK416; obtain ⟨hcz9_0, hcz9_1, hcz9_2, hcz9_3, hcz9_4⟩ := cz5 BK417) | ((with_reducible refine gate_callee (f := 54) rfl ?_); refine goesL_ (some 9) rfl rfl Tryz.func54 (by kernel_rfl) rfl #[.slice A0_0 l0_0.length c0_0, .slice A1_0 l1_0.length c1_0] rfl (by (try simp only [zU, zV, zW]); first | done | rfl | (simp only [zR, zQ]; rfl)) ?_; (with_reducible refine (laws_eqIntS.calls k _ _ l0_0 _ _ l1_0 t418 _ ?side1 ?side2 ?side3 ?side4 A3.out).mono ?_); (case side1 => exact nxC HR0_0 HB); (case side2 => exact HC0_0.out); (case side3 => exact nxC HR1_0 HB); (case side4 => exact HC1_0.out); rintro e w' ⟨rfl, ⟨nd, rfl⟩⟩; refine ⟨_, rfl, ?_⟩))
 have H := HF4.out
 clear HF4
 by_cases c10 : t418 = true
 ·subst c10
  rw [if_pos rfl] at H
  by_cases c11 : a0_1 = a1_1
  ·rw [if_pos c11] at H
   have c11b0 : (a0_1 == a1_1) = true := beq_iff_eq.mpr c11
   have c11b1 : (a0_1 != a1_1) = false := bne_eq_false_iff_eq.mpr c11
   clear c11
   (first | rw [c11b0] | rw [c11b1] | (simp only [i64_w, i32_w]; first | rw [c11b0] | rw [c11b1]) | skip)
   by_cases c12 : a0_2 = a1_2
   ·rw [if_pos c12] at H
    have c12b0 : (a0_2 == a1_2) = true := beq_iff_eq.mpr c12
    have c12b1 : (a0_2 != a1_2) = false := bne_eq_false_iff_eq.mpr c12
    clear c12
    by_cases c13 : a0_3 = a1_3
    ·rw [if_pos c13] at H
     have c13b0 : (a0_3 == a1_3) = true := beq_iff_eq.mpr c13
     have c13b1 : (a0_3 != a1_3) = false := bne_eq_false_iff_eq.mpr c13
     clear c13
     by_cases c14 : a0_4 = a1_4
     ·rw [if_pos c14] at H
      have c14b0 : (a0_4 == a1_4) = true := beq_iff_eq.mpr c14
      have c14b1 : (a0_4 != a1_4) = false := bne_eq_false_iff_eq.mpr c14
      clear c14
      obtain rfl := Option.some.inj H
      have hnb15 := NB416_417.out
      have hnc15 := NB417_416.out
      obtain ⟨hcz16_0, hcz16_1, hcz16_2, hcz16_3, hcz16_4⟩ := cz5 BK416
      obtain ⟨hcz17_0, hcz17_1, hcz17_2, hcz17_3, hcz17_4⟩ := cz5 BK417
      go_wp2
      go_ret
      exact ⟨rfl, nxD HB⟩
     ·rw [if_neg c14] at H
      have c14b0 : (a0_4 == a1_4) = false := beq_eq_false_iff_ne.mpr c14
      have c14b1 : (a0_4 != a1_4) = true := bne_iff_ne.mpr c14
      obtain rfl := Option.some.inj H
      have hnb18 := NB416_417.out
      have hnc18 := NB417_416.out
      obtain ⟨hcz19_0, hcz19_1, hcz19_2, hcz19_3, hcz19_4⟩ := cz5 BK416
      obtain ⟨hcz20_0, hcz20_1, hcz20_2, hcz20_3, hcz20_4⟩ := cz5 BK417
      go_wp2
      go_ret
      exact ⟨rfl, nxD HB⟩
    ·rw [if_neg c13] at H
     have c13b0 : (a0_3 == a1_3) = false := beq_eq_false_iff_ne.mpr c13
     have c13b1 : (a0_3 != a1_3) = true := bne_iff_ne.mpr c13
     obtain rfl := Option.some.inj H
     have hnb21 := NB416_417.out
     have hnc21 := NB417_416.out
     obtain ⟨hcz22_0, hcz22_1, hcz22_2, hcz22_3, hcz22_4⟩ := cz5 BK416
     obtain ⟨hcz23_0, hcz23_1, hcz23_2, hcz23_3, hcz23_4⟩ := cz5 BK417
     go_wp2
     go_ret
     exact ⟨rfl, nxD HB⟩
   ·rw [if_neg c12] at H
    have c12b0 : (a0_2 == a1_2) = false := beq_eq_false_iff_ne.mpr c12
    have c12b1 : (a0_2 != a1_2) = true := bne_iff_ne.mpr c12
    obtain rfl := Option.some.inj H
    have hnb24 := NB416_417.out
    have hnc24 := NB417_416.out
    obtain ⟨hcz25_0, hcz25_1, hcz25_2, hcz25_3, hcz25_4⟩ := cz5 BK416
    obtain ⟨hcz26_0, hcz26_1, hcz26_2, hcz26_3, hcz26_4⟩ := cz5 BK417
    go_wp2
    go_ret
    exact ⟨rfl, nxD HB⟩
  ·rw [if_neg c11] at H
   have c11b0 : (a0_1 == a1_1) = false := beq_eq_false_iff_ne.mpr c11
   have c11b1 : (a0_1 != a1_1) = true := bne_iff_ne.mpr c11
   (first | rw [c11b0] | rw [c11b1] | (simp only [i64_w, i32_w]; first | rw [c11b0] | rw [c11b1]) | skip)
   obtain rfl := Option.some.inj H
   have hnb27 := NB416_417.out
   have hnc27 := NB417_416.out
   obtain ⟨hcz28_0, hcz28_1, hcz28_2, hcz28_3, hcz28_4⟩ := cz5 BK416
   obtain ⟨hcz29_0, hcz29_1, hcz29_2, hcz29_3, hcz29_4⟩ := cz5 BK417
   go_wp2
   go_ret
   exact ⟨rfl, nxD HB⟩
 ·replace c10 := Bool.eq_false_iff.mpr c10
  subst c10
  rw [if_neg (show ¬ (false = true) by decide)] at H
  obtain rfl := Option.some.inj H
  go_wp2
  go_ret
  exact ⟨rfl, nxD HB⟩
end Go.Proofs.YtilimpjcdeeaiaaGreat.G


namespace Go.Proofs.YtilimpjcdeeaiaaGreat.G
open Go.RowKit Go.Proofs.YtilimpjcdeeaiaaGreatW.PrintWords Go.Proofs.YtilimpjcdeeaiaaGreatW.PrintLast Go.Proofs.YtilimpjcdeeaiaaGreatW.PrintMore
attribute [local go_sem] max2_int min2_int max_two min_two max_three min_three max_four min_four   -- for this text's walks alone
def laws_eqScanS.l0 : Nat → List (S79) → List (S79) → Int → Option (Bool)
 | 0, _, _, _ => none
 | k + 1, x0, x1, x5 => if x5 < (x0.length : Int) then (if 0 ≤ x5 then (if x5 < (x1.length : Int) then ((laws_eqScan.f k ((rd_T79 x0 x5).f0) ((rd_T79 x0 x5).f1) ((rd_T79 x0 x5).f2) ((rd_T79 x0 x5).f3) ((rd_T79 x0 x5).f4) ((rd_T79 x1 x5).f0) ((rd_T79 x1 x5).f1) ((rd_T79 x1 x5).f2) ((rd_T79 x1 x5).f3) ((rd_T79 x1 x5).f4)).bind fun t421 => (if t421 = true then (laws_eqScanS.l0 k x0 x1 (wrap64 (x5 + 1))) else (some false))) else (none)) else (none)) else (some true)
def laws_eqScanS.f (k : Nat) (l0 : List (S79)) (l1 : List (S79)) : Option (Bool) := if (l0.length : Int) = (l1.length : Int) then (laws_eqScanS.l0 k l0 l1 0) else (some false)
def laws_eqScanS.T6 : Bool × List (List Nat × List Nat) := (true, [([], []), ([], []), ([0, 1], [0, 1]), ([2], [2]), ([], []), ([], []), ([4, 5], [4, 5]), ([6], [6]), ([3, 7], [3, 7]), ([8], [8])])
def laws_eqScanS.B6 : List Nat := [0, 0, 3, 7, 0, 0, 48, 112, 255, 511]
theorem laws_eqScanS.tab6 : rtab .any (opsOf Tryz.f30 6) = laws_eqScanS.T6 := by kernel_rfl
theorem laws_eqScanS.bits6 : waitsOk laws_eqScanS.T6.2 laws_eqScanS.B6 = true := by kernel_rfl
set_option maxHeartbeats 8000000 in
set_option maxRecDepth 100000 in
theorem laws_eqScanS.calls (k : Nat) (A0 : Option Addr) (c0 : Nat) (l0 : List (S79)) (A1 : Option Addr) (c1 : Nat) (l1 : List (S79)) (r : Bool) (w : World) (hr0 : Kd.C k79 w A0 l0.length l0) (hc0 : l0.length ≤ c0) (hr1 : Kd.C k79 w A1 l1.length l1) (hc1 : l1.length ≤ c1) (h : laws_eqScanS.f k l0 l1 = some r) :
  Calls Tryz.prog 30 #[.slice A0 l0.length c0, .slice A1 l1.length c1] w fun e w' => e = .returned (.bool r) ∧ Below w.heap.size w w' := by
 have hu79 := Tryz.underlying79
 have HR0 := zA hr0
 have HC0 := zA hc0
 clear hr0 hc0
 have HR1 := zA hr1
 have HC1 := zA hc1
 clear hr1 hc1
 have HB := zA (Below.refl w.heap.size w)
 have H : (if (l0.length : Int) = (l1.length : Int) then (laws_eqScanS.l0 k l0 l1 0) else (some false)) = some r := h
 clear h
 by_cases c3 : (l0.length : Int) = (l1.length : Int)
 ·rw [if_pos c3] at H
  have c3b0 : ((l0.length : Int) == (l1.length : Int)) = true := beq_iff_eq.mpr c3
  have c3b1 : ((l0.length : Int) != (l1.length : Int)) = false := bne_eq_false_iff_eq.mpr c3
  have c3b2 : (l0.length == l1.length) = true := by first | simpa using c3 | (simp at c3 ⊢; omega)
  clear c3
  have H' := zA H
  clear H
  go_enter Tryz.func30, Tryz.ntmps30
  go_wp2
  go_loopg [5] k (fun kq v5 w' => ∃ (x5_1 : Int), v5 = .int .i64 x5_1 ∧ Aside0 (laws_eqScanS.l0 kq l0 l1 x5_1 = some r) ∧ Aside0 (kq ≤ k) ∧ Aside0 (Below w.heap.size w w'))
  case atStart => exact ⟨(0), rfl, H', ⟨Nat.le_refl _⟩, ⟨nxD HB⟩⟩
  case round =>
   clear H'
   obtain ⟨x5_1, rfl, HA, HK1, HB⟩ := hrel
   cases gk with
   | zero => exact absurd HA.out (by simp [laws_eqScanS.l0])
   | succ k1 =>
    have H := HA.out
    clear HA
    simp only [laws_eqScanS.l0] at H
    by_cases c4 : x5_1 < (l0.length : Int)
    ·rw [if_pos c4] at H
     have c4b0 := zT c4
     clear c4
     by_cases c5 : 0 ≤ x5_1
     ·rw [if_pos c5] at H
      have c5b0 := zT c5
      clear c5
      by_cases c6 : x5_1 < (l1.length : Int)
      ·rw [if_pos c6] at H
       have c6b0 := zT c6
       clear c6
       replace H := Option.bind_eq_some_iff.mp H
       obtain ⟨t421, A70, H⟩ := H
       try dsimp only at H
       have A7 := zA A70
       clear A70
       have HF8 := zA H
       clear H
       try go_wp2
       replace HB := zA (zF HB.out)
       have p419 : 0 ≤ (x5_1 : Int) := zI (by first | (with_reducible assumption) | assumption)
       have q419 : x5_1 < (l0.length : Int) := zI (by first | (with_reducible assumption) | assumption)
       obtain ⟨ad419, A419_0, c419_0, e419, hx419_0, hx419_1, hx419_2, hx419_3, hx419_4, hl419_0, hi419_0⟩ := at_T79 HR0.out x5_1 p419 q419
       have hw419_4 := hx419_4
       have hw419_3 := hx419_3
       have hw419_2 := hx419_2
       have hw419_1 := hx419_1
       have hw419_0 := hx419_0
       cases e419
       replace hx419_0 := (HB.out.cell (World.block_lt_of_cell? w _ hx419_0)).trans hx419_0
       replace hx419_1 := (HB.out.cell (World.block_lt_of_cell? w _ hx419_1)).trans hx419_1
       replace hx419_2 := (HB.out.cell (World.block_lt_of_cell? w _ hx419_2)).trans hx419_2
       replace hx419_3 := (HB.out.cell (World.block_lt_of_cell? w _ hx419_3)).trans hx419_3
       replace hx419_4 := (HB.out.cell (World.block_lt_of_cell? w _ hx419_4)).trans hx419_4
       have HR419_0 := zA hi419_0
       have HC419_0 := zA hl419_0
       clear hi419_0 hl419_0
       replace p419 := eq_true p419
       replace q419 := eq_true q419
       have p420 : 0 ≤ (x5_1 : Int) := zI (by first | (with_reducible assumption) | assumption)
       have q420 : x5_1 < (l1.length : Int) := zI (by first | (with_reducible assumption) | assumption)
       obtain ⟨ad420, A420_0, c420_0, e420, hx420_0, hx420_1, hx420_2, hx420_3, hx420_4, hl420_0, hi420_0⟩ := at_T79 HR1.out x5_1 p420 q420
       have hw420_4 := hx420_4
       have hw420_3 := hx420_3
       have hw420_2 := hx420_2
       have hw420_1 := hx420_1
       have hw420_0 := hx420_0
       cases e420
       replace hx420_0 := (HB.out.cell (World.block_lt_of_cell? w _ hx420_0)).trans hx420_0
       replace hx420_1 := (HB.out.cell (World.block_lt_of_cell? w _ hx420_1)).trans hx420_1
       replace hx420_2 := (HB.out.cell (World.block_lt_of_cell? w _ hx420_2)).trans hx420_2
       replace hx420_3 := (HB.out.cell (World.block_lt_of_cell? w _ hx420_3)).trans hx420_3
       replace hx420_4 := (HB.out.cell (World.block_lt_of_cell? w _ hx420_4)).trans hx420_4
       have HR420_0 := zA hi420_0
       have HC420_0 := zA hl420_0
       clear hi420_0 hl420_0
       replace p420 := eq_true p420
       replace q420 := eq_true q420
       refine start_ (n := 10) (S := fun w' => w'.cell? (ad419.add ((x5_1).toNat * 5)) = some (.slice A419_0 ((rd_T79 l0 x5_1).f0).length c419_0) ∧ w'.cell? ⟨(ad419.add ((x5_1).toNat * 5)).block, (ad419.add ((x5_1).toNat * 5)).off + 1, none⟩ = some (.int .i64 ((rd_T79 l0 x5_1).f1)) ∧ w'.cell? ⟨(ad419.add ((x5_1).toNat * 5)).block, (ad419.add ((x5_1).toNat * 5)).off + 2, none⟩ = some (.int .i64 ((rd_T79 l0 x5_1).f2)) ∧ w'.cell? ⟨(ad419.add ((x5_1).toNat * 5)).block, (ad419.add ((x5_1).toNat * 5)).off + 3, none⟩ = some (.int .i64 ((rd_T79 l0 x5_1).f3)) ∧ w'.cell? ⟨(ad419.add ((x5_1).toNat * 5)).block, (ad419.add ((x5_1).toNat * 5)).off + 4, none⟩ = some (.int .i64 ((rd_T79 l0 x5_1).f4)) ∧ w'.cell? (ad420.add ((x5_1).toNat * 5)) = some (.slice A420_0 ((rd_T79 l1 x5_1).f0).length c420_0) ∧ w'.cell? ⟨(ad420.add ((x5_1).toNat * 5)).block, (ad420.add ((x5_1).toNat * 5)).off + 1, none⟩ = some (.int .i64 ((rd_T79 l1 x5_1).f1)) ∧ w'.cell? ⟨(ad420.add ((x5_1).toNat * 5)).block, (ad420.add ((x5_1).toNat * 5)).off + 2, none⟩ = some (.int .i64 ((rd_T79 l1 x5_1).f2)) ∧ w'.cell? ⟨(ad420.add ((x5_1).toNat * 5)).block, (ad420.add ((x5_1).toNat * 5)).off + 3, none⟩ = some (.int .i64 ((rd_T79 l1 x5_1).f3)) ∧ w'.cell? ⟨(ad420.add ((x5_1).toNat * 5)).block, (ad420.add ((x5_1).toNat * 5)).off + 4, none⟩ = some (.int .i64 ((rd_T79 l1 x5_1).f4))) (ds := []) #[false, false, false, false, false, false, false, false, false, false] (by kernel_rfl) rfl rfl ⟨((HB.out.cell (World.block_lt_of_cell? w _ hw419_0)).trans hw419_0), ((HB.out.cell (World.block_lt_of_cell? w _ hw419_1)).trans hw419_1), ((HB.out.cell (World.block_lt_of_cell? w _ hw419_2)).trans hw419_2), ((HB.out.cell (World.block_lt_of_cell? w _ hw419_3)).trans hw419_3), ((HB.out.cell (World.block_lt_of_cell? w _ hw419_4)).trans hw419_4), ((HB.out.cell (World.block_lt_of_cell? w _ hw420_0)).trans hw420_0), ((HB.out.cell (World.block_lt_of_cell? w _ hw420_1)).trans hw420_1), ((HB.out.cell (World.block_lt_of_cell? w _ hw420_2)).trans hw420_2), ((HB.out.cell (World.block_lt_of_cell? w _ hw420_3)).trans hw420_3), ((HB.out.cell (World.block_lt_of_cell? w _ hw420_4)).trans hw420_4)⟩ (fun hHeld => ?_); refine with_tabW laws_eqScanS.tab6 laws_eqScanS.bits6 (fun HT_ HW_ => ?_)
       generalize wr.drew = w9 at HB HR419_0 HR420_0 hx419_0 hx419_1 hx419_2 hx419_3 hx419_4 hx420_0 hx420_1 hx420_2 hx420_3 hx420_4 hHeld ⊢
       refine nxY 0 17 HT_ rfl rfl ?_
       refine nxY 1 18 HT_ rfl rfl ?_
       refine nxY 2 19 HT_ rfl rfl ?_
       refine nxY 4 21 HT_ rfl rfl ?_
       refine nxY 5 22 HT_ rfl rfl ?_
       refine nxY 6 23 HT_ rfl rfl ?_
       refine nxW 3 20 HT_ HW_ hHeld rfl rfl ?_
       refine nxW 7 24 HT_ HW_ hHeld rfl rfl ?_
       refine nxO 8 25 HT_ rfl rfl (fun K hK => ?_)
       refine goes_ Tryz.func56 (by kernel_rfl) rfl #[.agg #[.slice A419_0 ((rd_T79 l0 x5_1).f0).length c419_0, .int .i64 ((rd_T79 l0 x5_1).f1), .int .i64 ((rd_T79 l0 x5_1).f2), .int .i64 ((rd_T79 l0 x5_1).f3), .int .i64 ((rd_T79 l0 x5_1).f4)], .agg #[.slice A420_0 ((rd_T79 l1 x5_1).f0).length c420_0, .int .i64 ((rd_T79 l1 x5_1).f1), .int .i64 ((rd_T79 l1 x5_1).f2), .int .i64 ((rd_T79 l1 x5_1).f3), .int .i64 ((rd_T79 l1 x5_1).f4)]] (by rfl) rfl rfl (by (try simp only [zU, zV, zW]); first | done | rfl | (simp only [zR, zQ]; rfl)) ?_
       with_reducible refine (laws_eqScan.calls k1 _ _ ((rd_T79 l0 x5_1).f0) ((rd_T79 l0 x5_1).f1) ((rd_T79 l0 x5_1).f2) ((rd_T79 l0 x5_1).f3) ((rd_T79 l0 x5_1).f4) _ _ ((rd_T79 l1 x5_1).f0) ((rd_T79 l1 x5_1).f1) ((rd_T79 l1 x5_1).f2) ((rd_T79 l1 x5_1).f3) ((rd_T79 l1 x5_1).f4) t421 _ ?side1 ?side2 ?side3 ?side4 A7.out).mono ?_
       (case side1 => exact nxC HR419_0 HB)
       (case side2 => exact HC419_0.out)
       (case side3 => exact nxC HR420_0 HB)
       (case side4 => exact HC420_0.out)
       rintro e w10 ⟨rfl, hb⟩
       refine ⟨_, rfl, ?_⟩
       replace HB := nxH hb HB
       refine hK.out _ _ ⟨((HB.out.cell (World.block_lt_of_cell? w _ hw419_0)).trans hw419_0), ((HB.out.cell (World.block_lt_of_cell? w _ hw419_1)).trans hw419_1), ((HB.out.cell (World.block_lt_of_cell? w _ hw419_2)).trans hw419_2), ((HB.out.cell (World.block_lt_of_cell? w _ hw419_3)).trans hw419_3), ((HB.out.cell (World.block_lt_of_cell? w _ hw419_4)).trans hw419_4), ((HB.out.cell (World.block_lt_of_cell? w _ hw420_0)).trans hw420_0), ((HB.out.cell (World.block_lt_of_cell? w _ hw420_1)).trans hw420_1), ((HB.out.cell (World.block_lt_of_cell? w _ hw420_2)).trans hw420_2), ((HB.out.cell (World.block_lt_of_cell? w _ hw420_3)).trans hw420_3), ((HB.out.cell (World.block_lt_of_cell? w _ hw420_4)).trans hw420_4)⟩ (fun hHeld => ?_)
       clear hK K
       refine nxZ 25 ?_
       refine nxY 9 26 HT_ rfl rfl ?_
       refine done_ (done_of HT_.out (by kernel_rfl)) ?_
       go_upto_if 26 with (fail)
       have H := HF8.out
       clear HF8
       by_cases c11 : t421 = true
       ·subst c11
        rw [if_pos rfl] at H
        have H' := zA H
        clear H
        go_wp2
        go_roundg k1
        case measure => have := HK1.out; omega
        case rel => exact ⟨(wrap64 (x5_1 + 1)), rfl, H', ⟨by have := HK1.out; omega⟩, ⟨nxD HB⟩⟩
       ·replace c11 := Bool.eq_false_iff.mpr c11
        subst c11
        rw [if_neg (show ¬ (false = true) by decide)] at H
        obtain rfl := Option.some.inj H
        go_wp2
        go_ret
        exact ⟨rfl, nxD HB⟩
      ·rw [if_neg c6] at H
       exact absurd H (by simp)
     ·rw [if_neg c5] at H
      exact absurd H (by simp)
    ·rw [if_neg c4] at H
     have c4b0 := decide_eq_false c4
     clear c4
     obtain rfl := Option.some.inj H
     go_wp2
     go_ret
     exact ⟨rfl, nxD HB⟩
 ·rw [if_neg c3] at H
  have c3b0 : ((l0.length : Int) == (l1.length : Int)) = false := beq_eq_false_iff_ne.mpr c3
  have c3b1 : ((l0.length : Int) != (l1.length : Int)) = true := bne_iff_ne.mpr c3
  have c3b2 : (l0.length == l1.length) = false := by first | simpa using c3 | (simp at c3 ⊢; omega)
  obtain rfl := Option.some.inj H
  go_enter Tryz.func30, Tryz.ntmps30
  go_wp2
  go_ret
  exact ⟨rfl, nxD HB⟩
theorem laws_eqScanS.same (a : List S79) (ha : a.length ≤ 1048576) (hx : ∀ x ∈ a, x.f0.length ≤ 1048576) : Ev (fun k => laws_eqScanS.f k a a) true := by
 unfold laws_eqScanS.f
 refine Ev.ip rfl ?_
 have key : ∀ d i : Nat, i + d = a.length → Ev (fun k => laws_eqScanS.l0 k a a (i : Int)) true := by
  intro d
  induction d with
  | zero => intro i hi; exact Ev.step (fun _ => by rw [laws_eqScanS.l0]) (Ev.ng (by omega) (Ev.now _))
  | succ d ih =>
   intro i hi
   have h1 : i < a.length := by omega
   refine Ev.step (fun _ => by rw [laws_eqScanS.l0]) (Ev.ip (by omega) (Ev.ip (by omega) (Ev.ip (by omega) ?_)))
   rw [show rd_T79 a (i : Int) = a[i] by simp [rd_T79, h1], wrap_succ i (by omega)]
   refine Ev.bind (r := true) ?_ (Ev.ip rfl (ih (i + 1) (by omega)))
   unfold laws_eqScan.f
   exact Ev.bind (laws_eqIntS.T _ (hx _ (List.getElem_mem h1))) (Ev.ip rfl (Ev.ip rfl (Ev.ip rfl (Ev.ip rfl (Ev.ip rfl (Ev.now _))))))
 exact key a.length 0 (Nat.zero_add _)
end Go.Proofs.YtilimpjcdeeaiaaGreat.G


namespace Go.Proofs.YtilimpjcdeeaiaaGreat.G
open Go.RowKit Go.Proofs.YtilimpjcdeeaiaaGreatW.PrintWords Go.Proofs.YtilimpjcdeeaiaaGreatW.PrintLast Go.Proofs.YtilimpjcdeeaiaaGreatW.PrintMore
attribute [local go_sem] max2_int min2_int max_two min_two max_three min_three max_four min_four   -- for this text's walks alone
def laws_eqByteS.l0 : Nat → List Int → List Int → Int → Option (Bool)
 | 0, _, _, _ => none
 | k + 1, x0, x1, x5 => if x5 < (x0.length : Int) then (if 0 ≤ x5 then (if x5 < (x1.length : Int) then (if (rd x0 x5) = (rd x1 x5) then (laws_eqByteS.l0 k x0 x1 (wrap64 (x5 + 1))) else (some false)) else (none)) else (none)) else (some true)
def laws_eqByteS.f (k : Nat) (l0 : List Int) (l1 : List Int) : Option (Bool) := if (l0.length : Int) = (l1.length : Int) then (laws_eqByteS.l0 k l0 l1 0) else (some false)
set_option maxHeartbeats 8000000 in
set_option maxRecDepth 100000 in
theorem laws_eqByteS.calls (k : Nat) (A0 : Option Addr) (c0 : Nat) (l0 : List Int) (A1 : Option Addr) (c1 : Nat) (l1 : List Int) (r : Bool) (w : World) (hr0 : Kd.C (Kd.int .u8) w A0 l0.length l0) (hc0 : l0.length ≤ c0) (hr1 : Kd.C (Kd.int .u8) w A1 l1.length l1) (hc1 : l1.length ≤ c1) (h : laws_eqByteS.f k l0 l1 = some r) :
  Calls Tryz.prog 31 #[.slice A0 l0.length c0, .slice A1 l1.length c1] w fun e w' => e = .returned (.bool r) ∧ Drawn0 w w' := by
 have HR0 := zA hr0
 have HC0 := zA hc0
 clear hr0 hc0
 have HR1 := zA hr1
 have HC1 := zA hc1
 clear hr1 hc1
 have H : (if (l0.length : Int) = (l1.length : Int) then (laws_eqByteS.l0 k l0 l1 0) else (some false)) = some r := h
 clear h
 by_cases c3 : (l0.length : Int) = (l1.length : Int)
 rotate_left
 ·rw [if_neg c3] at H
  have c3b0 : ((l0.length : Int) == (l1.length : Int)) = false := beq_eq_false_iff_ne.mpr c3
  have c3b1 : ((l0.length : Int) != (l1.length : Int)) = true := bne_iff_ne.mpr c3
  have c3b2 : (l0.length == l1.length) = false := by first | simpa using c3 | (simp at c3 ⊢; omega)
  obtain rfl := Option.some.inj H
  go_enter Tryz.func31, Tryz.ntmps31
  go_wp2
  repeat (go_quiet (fail); try go_wp2)
  go_ret
  exact ⟨by first | rfl | (simp; done) | (simp [*]; done), by repeat (first | exact Drawn0.refl _ | apply Drawn0.step)⟩
 rw [if_pos c3] at H
 have c3b0 : ((l0.length : Int) == (l1.length : Int)) = true := beq_iff_eq.mpr c3
 have c3b1 : ((l0.length : Int) != (l1.length : Int)) = false := bne_eq_false_iff_eq.mpr c3
 have c3b2 : (l0.length == l1.length) = true := by first | simpa using c3 | (simp at c3 ⊢; omega)
 clear c3
 have H' := zA H
 clear H
 go_enter Tryz.func31, Tryz.ntmps31
 go_wp2
 repeat (go_quiet (fail); try go_wp2)
 go_loopg [5] k (fun kq v5 w' => ∃ (x5_1 : Int), v5 = .int .i64 x5_1 ∧ Aside0 (laws_eqByteS.l0 kq l0 l1 x5_1 = some r) ∧ Aside0 (kq ≤ k) ∧ Drawn0 w w')
 case atStart => exact ⟨(0), rfl, H', ⟨Nat.le_refl _⟩, by repeat (first | exact Drawn0.refl _ | apply Drawn0.step)⟩
 case round =>
  clear H'
  obtain ⟨x5_1, rfl, HA, HK1, ⟨m1, rfl⟩⟩ := hrel
  cases gk with
  | zero => exact absurd HA.out (by simp [laws_eqByteS.l0])
  | succ k1 =>
   have H := HA.out
   clear HA
   simp only [laws_eqByteS.l0] at H
   by_cases c4 : x5_1 < (l0.length : Int)
   rotate_left
   ·rw [if_neg c4] at H
    have c4b0 := decide_eq_false c4
    clear c4
    obtain rfl := Option.some.inj H
    go_wp2
    repeat (go_quiet (fail); try go_wp2)
    go_ret
    exact ⟨by first | rfl | (simp; done) | (simp [*]; done), by repeat (first | exact Drawn0.refl _ | apply Drawn0.step)⟩
   rw [if_pos c4] at H
   have c4b0 := zT c4
   clear c4
   by_cases c5 : 0 ≤ x5_1
   rotate_left
   ·rw [if_neg c5] at H
    exact absurd H (by simp)
   rw [if_pos c5] at H
   have c5b0 := zT c5
   clear c5
   by_cases c6 : x5_1 < (l1.length : Int)
   rotate_left
   ·rw [if_neg c6] at H
    exact absurd H (by simp)
   rw [if_pos c6] at H
   have c6b0 := zT c6
   clear c6
   by_cases c7 : (rd l0 x5_1) = (rd l1 x5_1)
   rotate_left
   ·rw [if_neg c7] at H
    have c7b0 : ((rd l0 x5_1) == (rd l1 x5_1)) = false := beq_eq_false_iff_ne.mpr c7
    have c7b1 : ((rd l0 x5_1) != (rd l1 x5_1)) = true := bne_iff_ne.mpr c7
    obtain rfl := Option.some.inj H
    have p422 : 0 ≤ (x5_1 : Int) := zI (by first | (with_reducible assumption) | assumption)
    have q422 : x5_1 < (l0.length : Int) := zI (by first | (with_reducible assumption) | assumption)
    obtain ⟨ad422, e422, hx422_0⟩ := Kd.at_int HR0.out x5_1 p422 q422
    cases e422
    replace p422 := eq_true p422
    replace q422 := eq_true q422
    have p423 : 0 ≤ (x5_1 : Int) := zI (by first | (with_reducible assumption) | assumption)
    have q423 : x5_1 < (l1.length : Int) := zI (by first | (with_reducible assumption) | assumption)
    obtain ⟨ad423, e423, hx423_0⟩ := Kd.at_int HR1.out x5_1 p423 q423
    cases e423
    replace p423 := eq_true p423
    replace q423 := eq_true q423
    go_wp2
    repeat (go_quiet (fail); try go_wp2)
    go_ret
    exact ⟨by first | rfl | (simp; done) | (simp [*]; done), by repeat (first | exact Drawn0.refl _ | apply Drawn0.step)⟩
   rw [if_pos c7] at H
   have c7b0 : ((rd l0 x5_1) == (rd l1 x5_1)) = true := beq_iff_eq.mpr c7
   have c7b1 : ((rd l0 x5_1) != (rd l1 x5_1)) = false := bne_eq_false_iff_eq.mpr c7
   clear c7
   have H' := zA H
   clear H
   have p422 : 0 ≤ (x5_1 : Int) := zI (by first | (with_reducible assumption) | assumption)
   have q422 : x5_1 < (l0.length : Int) := zI (by first | (with_reducible assumption) | assumption)
   obtain ⟨ad422, e422, hx422_0⟩ := Kd.at_int HR0.out x5_1 p422 q422
   cases e422
   replace p422 := eq_true p422
   replace q422 := eq_true q422
   have p423 : 0 ≤ (x5_1 : Int) := zI (by first | (with_reducible assumption) | assumption)
   have q423 : x5_1 < (l1.length : Int) := zI (by first | (with_reducible assumption) | assumption)
   obtain ⟨ad423, e423, hx423_0⟩ := Kd.at_int HR1.out x5_1 p423 q423
   cases e423
   replace p423 := eq_true p423
   replace q423 := eq_true q423
   go_wp2
   repeat (go_quiet (fail); try go_wp2)
   go_roundg k1
   case measure => have := HK1.out; omega
   case rel => exact ⟨(wrap64 (x5_1 + 1)), rfl, H', ⟨by have := HK1.out; omega⟩, by repeat (first | exact Drawn0.refl _ | apply Drawn0.step)⟩
theorem laws_eqByteS.ev (a b : List Int) (ha : a.length ≤ 4611686018427387904) : Ev (fun k => laws_eqByteS.f k a b) (a == b) := by
 unfold laws_eqByteS.f
 by_cases hl : a.length = b.length
 rotate_left
 ·refine Ev.ng (by omega) (Ev.eq (Ev.now _) ?_)
  symm
  rw [beq_eq_false_iff_ne]
  intro h; exact hl (by rw [h])
 refine Ev.ip (by omega) ?_
 have key : ∀ d i : Nat, a.length - i = d → i ≤ a.length → Ev (fun k => laws_eqByteS.l0 k a b (i : Int)) (a.drop i == b.drop i) := by
  intro d
  induction d with
  | zero =>
   intro i hd hi
   refine Ev.step (fun _ => by rw [laws_eqByteS.l0]) ?_
   refine Ev.ng (by omega) (Ev.eq (Ev.now _) ?_)
   rw [List.drop_of_length_le (by omega), List.drop_of_length_le (by omega)]; rfl
  | succ d ih =>
   intro i hd hi
   have h1 : i < a.length := by omega
   have h2 : i < b.length := by omega
   refine Ev.step (fun _ => by rw [laws_eqByteS.l0]) ?_
   refine Ev.ip (by omega) (Ev.ip (by omega) (Ev.ip (by omega) ?_))
   rw [rd_nat a i h1, rd_nat b i h2, wrap_succ i (by omega)]
   have e : (a.drop i == b.drop i) = (a[i] == b[i] && a.drop (i + 1) == b.drop (i + 1)) := by
    rw [List.drop_eq_getElem_cons h1, List.drop_eq_getElem_cons h2]; rfl
   rw [e]
   by_cases h : a[i] = b[i]
   ·exact Ev.ip h (Ev.eq (ih (i + 1) (by omega) (by omega)) (by simp [h]))
   ·exact Ev.ng h (Ev.eq (Ev.now _) (by simp [h]))
 exact key _ 0 rfl (by omega)
theorem laws_eqByteS.T (a : List Int) (ha : a.length ≤ 1048576) : Ev (fun k => laws_eqByteS.f k a a) true := Ev.eq (laws_eqByteS.ev a a (by omega)) (by simp)
end Go.Proofs.YtilimpjcdeeaiaaGreat.G


namespace Go.Proofs.YtilimpjcdeeaiaaGreat.G
open Go.RowKit Go.Proofs.YtilimpjcdeeaiaaGreatW.PrintWords Go.Proofs.YtilimpjcdeeaiaaGreatW.PrintLast Go.Proofs.YtilimpjcdeeaiaaGreatW.PrintMore
attribute [local go_sem] max2_int min2_int max_two min_two max_three min_three max_four min_four   -- for this text's walks alone
def laws_eqStream.f (k : Nat) (a0_0 : Int) (a0_1 : Int) (a0_2 : Int) (a0_3 : Int) (l0_4 : List (S53)) (l0_5 : List (List Int)) (l0_6 : List (List (List Int))) (a0_7 : Int) (l0_8 : List (S79)) (l0_9 : List Int) (a1_0 : Int) (a1_1 : Int) (a1_2 : Int) (a1_3 : Int) (l1_4 : List (S53)) (l1_5 : List (List Int)) (l1_6 : List (List (List Int))) (a1_7 : Int) (l1_8 : List (S79)) (l1_9 : List Int) : Option (Bool) := (laws_eqFrame.f k a0_0 a0_1 a0_2 a0_3 l0_4 a1_0 a1_1 a1_2 a1_3 l1_4).bind fun t426 => (if t426 = true then ((laws_eqIntSS.f k l0_5 l1_5).bind fun t427 => (if t427 = true then ((laws_eqCoefs.f k l0_6 l1_6).bind fun t428 => (if t428 = true then (if a0_7 = a1_7 then ((laws_eqScanS.f k l0_8 l1_8).bind fun t429 => (if t429 = true then ((laws_eqByteS.f k l0_9 l1_9).bind fun t430 => (if t430 = true then (some true) else (some false))) else (some false))) else (some false)) else (some false))) else (some false))) else (some false))
set_option maxHeartbeats 8000000 in
set_option maxRecDepth 100000 in
theorem laws_eqStream.calls (k : Nat) (a0_0 : Int) (a0_1 : Int) (a0_2 : Int) (a0_3 : Int) (A0_4 : Option Addr) (c0_4 : Nat) (l0_4 : List (S53)) (A0_5 : Option Addr) (c0_5 : Nat) (l0_5 : List (List Int)) (A0_6 : Option Addr) (c0_6 : Nat) (l0_6 : List (List (List Int))) (a0_7 : Int) (A0_8 : Option Addr) (c0_8 : Nat) (l0_8 : List (S79)) (A0_9 : Option Addr) (c0_9 : Nat) (l0_9 : List Int) (a1_0 : Int) (a1_1 : Int) (a1_2 : Int) (a1_3 : Int) (A1_4 : Option Addr) (c1_4 : Nat) (l1_4 : List (S53)) (A1_5 : Option Addr) (c1_5 : Nat) (l1_5 : List (List Int)) (A1_6 : Option Addr) (c1_6 : Nat) (l1_6 : List (List (List Int))) (a1_7 : Int) (A1_8 : Option Addr) (c1_8 : Nat) (l1_8 : List (S79)) (A1_9 : Option Addr) (c1_9 : Nat) (l1_9 : List Int) (r : Bool) (w : World) (hr0_4 : Kd.C k53 w A0_4 l0_4.length l0_4) (hc0_4 : l0_4.length ≤ c0_4) (hr0_5 : Kd.C (Kd.slice 3 (Kd.int .i64)) w A0_5 l0_5.length l0_5) (hc0_5 : l0_5.length ≤ c0_5) (hr0_6 : Kd.C (Kd.slice 66 (Kd.slice 3 (Kd.int .i64))) w A0_6 l0_6.length l0_6) (hc0_6 : l0_6.length ≤ c0_6) (hr0_8 : Kd.C k79 w A0_8 l0_8.length l0_8) (hc0_8 : l0_8.length ≤ c0_8) (hr0_9 : Kd.C (Kd.int .u8) w A0_9 l0_9.length l0_9) (hc0_9 : l0_9.length ≤ c0_9) (hr1_4 : Kd.C k53 w A1_4 l1_4.length l1_4) (hc1_4 : l1_4.length ≤ c1_4) (hr1_5 : Kd.C (Kd.slice 3 (Kd.int .i64)) w A1_5 l1_5.length l1_5) (hc1_5 : l1_5.length ≤ c1_5) (hr1_6 : Kd.C (Kd.slice 66 (Kd.slice 3 (Kd.int .i64))) w A1_6 l1_6.length l1_6) (hc1_6 : l1_6.length ≤ c1_6) (hr1_8 : Kd.C k79 w A1_8 l1_8.length l1_8) (hc1_8 : l1_8.length ≤ c1_8) (hr1_9 : Kd.C (Kd.int .u8) w A1_9 l1_9.length l1_9) (hc1_9 : l1_9.length ≤ c1_9) (h : laws_eqStream.f k a0_0 a0_1 a0_2 a0_3 l0_4 l0_5 l0_6 a0_7 l0_8 l0_9 a1_0 a1_1 a1_2 a1_3 l1_4 l1_5 l1_6 a1_7 l1_8 l1_9 = some r) :
  Calls Tryz.prog 8 #[.agg #[.int .i64 a0_0, .int .i64 a0_1, .int .i64 a0_2, .int .i64 a0_3, .slice A0_4 l0_4.length c0_4, .slice A0_5 l0_5.length c0_5, .slice A0_6 l0_6.length c0_6, .int .i64 a0_7, .slice A0_8 l0_8.length c0_8, .slice A0_9 l0_9.length c0_9], .agg #[.int .i64 a1_0, .int .i64 a1_1, .int .i64 a1_2, .int .i64 a1_3, .slice A1_4 l1_4.length c1_4, .slice A1_5 l1_5.length c1_5, .slice A1_6 l1_6.length c1_6, .int .i64 a1_7, .slice A1_8 l1_8.length c1_8, .slice A1_9 l1_9.length c1_9]] w fun e w' => e = .returned (.bool r) ∧ Below w.heap.size w w' := by
 have hu41 := Tryz.underlying41
 have hu37 := Tryz.underlying37
 have hu38 := Tryz.underlying38
 have HR0_4 := zA hr0_4
 have HC0_4 := zA hc0_4
 clear hr0_4 hc0_4
 have HR0_5 := zA hr0_5
 have HC0_5 := zA hc0_5
 clear hr0_5 hc0_5
 have HR0_6 := zA hr0_6
 have HC0_6 := zA hc0_6
 clear hr0_6 hc0_6
 have HR0_8 := zA hr0_8
 have HC0_8 := zA hc0_8
 clear hr0_8 hc0_8
 have HR0_9 := zA hr0_9
 have HC0_9 := zA hc0_9
 clear hr0_9 hc0_9
 have HR1_4 := zA hr1_4
 have HC1_4 := zA hc1_4
 clear hr1_4 hc1_4
 have HR1_5 := zA hr1_5
 have HC1_5 := zA hc1_5
 clear hr1_5 hc1_5
 have HR1_6 := zA hr1_6
 have HC1_6 := zA hc1_6
 clear hr1_6 hc1_6
 have HR1_8 := zA hr1_8
 have HC1_8 := zA hc1_8
 clear hr1_8 hc1_8
 have HR1_9 := zA hr1_9
 have HC1_9 := zA hc1_9
 clear hr1_9 hc1_9
 have HB := zA (Below.refl w.heap.size w)
 have H : ((laws_eqFrame.f k a0_0 a0_1 a0_2 a0_3 l0_4 a1_0 a1_1 a1_2 a1_3 l1_4).bind fun t426 => (if t426 = true then ((laws_eqIntSS.f k l0_5 l1_5).bind fun t427 => (if t427 = true then ((laws_eqCoefs.f k l0_6 l1_6).bind fun t428 => (if t428 = true then (if a0_7 = a1_7 then ((laws_eqScanS.f k l0_8 l1_8).bind fun t429 => (if t429 = true then ((laws_eqByteS.f k l0_9 l1_9).bind fun t430 => (if t430 = true then (some true) else (some false))) else (some false))) else (some false)) else (some false))) else (some false))) else (some false))) = some r := h
 clear h
 replace H := Option.bind_eq_some_iff.mp H
 obtain ⟨t426, A30, H⟩ := H
 try dsimp only at H
 have A3 := zA A30
 clear A30
 have HF4 := zA H
 clear H
 go_enter Tryz.func8, Tryz.ntmps8
 go_upto_if 10 with (first | ((with_reducible refine gate_dst (N := 2) rfl ?_); refine nxX (N := 2) (cs := #[.int .i64 a0_0, .int .i64 a0_1, .int .i64 a0_2, .int .i64 a0_3, .slice A0_4 l0_4.length c0_4, .slice A0_5 l0_5.length c0_5, .slice A0_6 l0_6.length c0_6, .int .i64 a0_7, .slice A0_8 l0_8.length c0_8, .slice A0_9 l0_9.length c0_9]) (t := 41) ?_; intro gb424 hg w5 hbox hb; have n0_ := nxH hb HB; have n1_ := zA (hbox); clear HB; have HB := n0_; have BK424 := n1_; clear n0_ n1_ ; clear hb hbox hg) | ((with_reducible refine gate_dst (N := 3) rfl ?_); refine nxX (N := 3) (cs := #[.int .i64 a1_0, .int .i64 a1_1, .int .i64 a1_2, .int .i64 a1_3, .slice A1_4 l1_4.length c1_4, .slice A1_5 l1_5.length c1_5, .slice A1_6 l1_6.length c1_6, .int .i64 a1_7, .slice A1_8 l1_8.length c1_8, .slice A1_9 l1_9.length c1_9]) (t := 41) ?_; intro gb425 hg w6 hbox hb; have BK425 := zA (hbox); have NB424_425 := nxL BK424 hg; have NB425_424 := nxK BK424 hg; replace BK424 := nxB hb BK424; replace HB := nxH hb HB; clear hb hbox hg; have hnb7 := NB424_425.out; have hnc7 := NB425_424.out; obtain ⟨hcz8_0, hcz8_1, hcz8_2, hcz8_3, hcz8_4, hcz8_5, hcz8_6, hcz8_7, hcz8_8, hcz8_9⟩ := cz10 BK424; obtain ⟨hcz9_0, hcz9_1, hcz9_2, hcz9_3, hcz9_4, hcz9_5, hcz9_6, hcz9_7, hcz9_8, hcz9_9⟩ := cz10 BK425) | ((with_reducible refine gate_callee (f := 27) rfl ?_); refine goesL_ (some 9) rfl rfl Tryz.func27 (by kernel_rfl) rfl #[.agg #[.int .i64 a0_0, .int .i64 a0_1, .int .i64 a0_2, .int .i64 a0_3, .slice A0_4 l0_4.length c0_4], .agg #[.int .i64 a1_0, .int .i64 a1_1, .int .i64 a1_2, .int .i64 a1_3, .slice A1_4 l1_4.length c1_4]] rfl (by (try simp only [zU, zV, zW]); first | done | rfl | (simp only [zR, zQ]; rfl)) ?_; (with_reducible refine (laws_eqFrame.calls k a0_0 a0_1 a0_2 a0_3 _ _ l0_4 a1_0 a1_1 a1_2 a1_3 _ _ l1_4 t426 _ ?side1 ?side2 ?side3 ?side4 A3.out).mono ?_); (case side1 => exact nxC HR0_4 HB); (case side2 => exact HC0_4.out); (case side3 => exact nxC HR1_4 HB); (case side4 => exact HC1_4.out); rintro e w10 ⟨rfl, hb⟩; refine ⟨_, rfl, ?_⟩; replace BK424 := nxB hb BK424; replace BK425 := nxB hb BK425; replace HB := nxH hb HB; (try clear hb); (try clear hb2); (try clear hk); (try clear hi)))
 have H := HF4.out
 clear HF4
 by_cases c11 : t426 = true
 ·subst c11
  rw [if_pos rfl] at H
  replace H := Option.bind_eq_some_iff.mp H
  obtain ⟨t427, A120, H⟩ := H
  try dsimp only at H
  have A12 := zA A120
  clear A120
  have HF13 := zA H
  clear H
  have hnb14 := NB424_425.out
  have hnc14 := NB425_424.out
  obtain ⟨hcz15_0, hcz15_1, hcz15_2, hcz15_3, hcz15_4, hcz15_5, hcz15_6, hcz15_7, hcz15_8, hcz15_9⟩ := cz10 BK424
  obtain ⟨hcz16_0, hcz16_1, hcz16_2, hcz16_3, hcz16_4, hcz16_5, hcz16_6, hcz16_7, hcz16_8, hcz16_9⟩ := cz10 BK425
  go_upto_if 16 with (first | ((with_reducible refine gate_callee (f := 28) rfl ?_); refine goesL_ (some 15) rfl rfl Tryz.func28 (by kernel_rfl) rfl #[.slice A0_5 l0_5.length c0_5, .slice A1_5 l1_5.length c1_5] rfl (by (try simp only [zU, zV, zW]); first | done | rfl | (simp only [zR, zQ]; rfl)) ?_; (with_reducible refine (laws_eqIntSS.calls k _ _ l0_5 _ _ l1_5 t427 _ ?side1 ?side2 ?side3 ?side4 A12.out).mono ?_); (case side1 => exact nxC HR0_5 HB); (case side2 => exact HC0_5.out); (case side3 => exact nxC HR1_5 HB); (case side4 => exact HC1_5.out); rintro e w' ⟨rfl, ⟨nd, rfl⟩⟩; refine ⟨_, rfl, ?_⟩))
  have H := HF13.out
  clear HF13
  by_cases c17 : t427 = true
  ·subst c17
   rw [if_pos rfl] at H
   replace H := Option.bind_eq_some_iff.mp H
   obtain ⟨t428, A180, H⟩ := H
   try dsimp only at H
   have A18 := zA A180
   clear A180
   have HF19 := zA H
   clear H
   have hnb20 := NB424_425.out
   have hnc20 := NB425_424.out
   obtain ⟨hcz21_0, hcz21_1, hcz21_2, hcz21_3, hcz21_4, hcz21_5, hcz21_6, hcz21_7, hcz21_8, hcz21_9⟩ := cz10 BK424
   obtain ⟨hcz22_0, hcz22_1, hcz22_2, hcz22_3, hcz22_4, hcz22_5, hcz22_6, hcz22_7, hcz22_8, hcz22_9⟩ := cz10 BK425
   go_upto_if 22 with (first | ((with_reducible refine gate_callee (f := 29) rfl ?_); refine goesL_ (some 21) rfl rfl Tryz.func29 (by kernel_rfl) rfl #[.agg #[.slice A0_6 l0_6.length c0_6], .agg #[.slice A1_6 l1_6.length c1_6]] rfl (by (try simp only [zU, zV, zW]); first | done | rfl | (simp only [zR, zQ]; rfl)) ?_; (with_reducible refine (laws_eqCoefs.calls k _ _ l0_6 _ _ l1_6 t428 _ ?side1 ?side2 ?side3 ?side4 A18.out).mono ?_); (case side1 => exact nxC HR0_6 HB); (case side2 => exact HC0_6.out); (case side3 => exact nxC HR1_6 HB); (case side4 => exact HC1_6.out); rintro e w23 ⟨rfl, hb⟩; refine ⟨_, rfl, ?_⟩; replace BK424 := nxB hb BK424; replace BK425 := nxB hb BK425; replace HB := nxH hb HB; (try clear hb); (try clear hb2); (try clear hk); (try clear hi)))
   have H := HF19.out
   clear HF19
   by_cases c24 : t428 = true
   ·subst c24
    rw [if_pos rfl] at H
    by_cases c25 : a0_7 = a1_7
    ·rw [if_pos c25] at H
     have c25b0 : (a0_7 == a1_7) = true := beq_iff_eq.mpr c25
     have c25b1 : (a0_7 != a1_7) = false := bne_eq_false_iff_eq.mpr c25
     clear c25
     (first | rw [c25b0] | rw [c25b1] | (simp only [i64_w, i32_w]; first | rw [c25b0] | rw [c25b1]) | skip)
     replace H := Option.bind_eq_some_iff.mp H
     obtain ⟨t429, A260, H⟩ := H
     try dsimp only at H
     have A26 := zA A260
     clear A260
     have HF27 := zA H
     clear H
     have hnb28 := NB424_425.out
     have hnc28 := NB425_424.out
     obtain ⟨hcz29_0, hcz29_1, hcz29_2, hcz29_3, hcz29_4, hcz29_5, hcz29_6, hcz29_7, hcz29_8, hcz29_9⟩ := cz10 BK424
     obtain ⟨hcz30_0, hcz30_1, hcz30_2, hcz30_3, hcz30_4, hcz30_5, hcz30_6, hcz30_7, hcz30_8, hcz30_9⟩ := cz10 BK425
     go_upto_if 33 with (first | ((with_reducible refine gate_callee (f := 30) rfl ?_); refine goesL_ (some 32) rfl rfl Tryz.func30 (by kernel_rfl) rfl #[.slice A0_8 l0_8.length c0_8, .slice A1_8 l1_8.length c1_8] rfl (by (try simp only [zU, zV, zW]); first | done | rfl | (simp only [zR, zQ]; rfl)) ?_; (with_reducible refine (laws_eqScanS.calls k _ _ l0_8 _ _ l1_8 t429 _ ?side1 ?side2 ?side3 ?side4 A26.out).mono ?_); (case side1 => exact nxC HR0_8 HB); (case side2 => exact HC0_8.out); (case side3 => exact nxC HR1_8 HB); (case side4 => exact HC1_8.out); rintro e w31 ⟨rfl, hb⟩; refine ⟨_, rfl, ?_⟩; replace BK424 := nxB hb BK424; replace BK425 := nxB hb BK425; replace HB := nxH hb HB; (try clear hb); (try clear hb2); (try clear hk); (try clear hi)))
     have H := HF27.out
     clear HF27
     by_cases c32 : t429 = true
     ·subst c32
      rw [if_pos rfl] at H
      replace H := Option.bind_eq_some_iff.mp H
      obtain ⟨t430, A330, H⟩ := H
      try dsimp only at H
      have A33 := zA A330
      clear A330
      have HF34 := zA H
      clear H
      have hnb35 := NB424_425.out
      have hnc35 := NB425_424.out
      obtain ⟨hcz36_0, hcz36_1, hcz36_2, hcz36_3, hcz36_4, hcz36_5, hcz36_6, hcz36_7, hcz36_8, hcz36_9⟩ := cz10 BK424
      obtain ⟨hcz37_0, hcz37_1, hcz37_2, hcz37_3, hcz37_4, hcz37_5, hcz37_6, hcz37_7, hcz37_8, hcz37_9⟩ := cz10 BK425
      go_upto_if 39 with (first | ((with_reducible refine gate_callee (f := 31) rfl ?_); refine goesL_ (some 38) rfl rfl Tryz.func31 (by kernel_rfl) rfl #[.slice A0_9 l0_9.length c0_9, .slice A1_9 l1_9.length c1_9] rfl (by (try simp only [zU, zV, zW]); first | done | rfl | (simp only [zR, zQ]; rfl)) ?_; (with_reducible refine (laws_eqByteS.calls k _ _ l0_9 _ _ l1_9 t430 _ ?side1 ?side2 ?side3 ?side4 A33.out).mono ?_); (case side1 => exact nxC HR0_9 HB); (case side2 => exact HC0_9.out); (case side3 => exact nxC HR1_9 HB); (case side4 => exact HC1_9.out); rintro e w' ⟨rfl, ⟨nd, rfl⟩⟩; refine ⟨_, rfl, ?_⟩))
      have H := HF34.out
      clear HF34
      by_cases c38 : t430 = true
      ·subst c38
       rw [if_pos rfl] at H
       obtain rfl := Option.some.inj H
       go_wp2
       go_ret
       exact ⟨rfl, nxD HB⟩
      ·replace c38 := Bool.eq_false_iff.mpr c38
       subst c38
       rw [if_neg (show ¬ (false = true) by decide)] at H
       obtain rfl := Option.some.inj H
       go_wp2
       go_ret
       exact ⟨rfl, nxD HB⟩
     ·replace c32 := Bool.eq_false_iff.mpr c32
      subst c32
      rw [if_neg (show ¬ (false = true) by decide)] at H
      obtain rfl := Option.some.inj H
      go_wp2
      go_ret
      exact ⟨rfl, nxD HB⟩
    ·rw [if_neg c25] at H
     have c25b0 : (a0_7 == a1_7) = false := beq_eq_false_iff_ne.mpr c25
     have c25b1 : (a0_7 != a1_7) = true := bne_iff_ne.mpr c25
     (first | rw [c25b0] | rw [c25b1] | (simp only [i64_w, i32_w]; first | rw [c25b0] | rw [c25b1]) | skip)
     obtain rfl := Option.some.inj H
     have hnb39 := NB424_425.out
     have hnc39 := NB425_424.out
     obtain ⟨hcz40_0, hcz40_1, hcz40_2, hcz40_3, hcz40_4, hcz40_5, hcz40_6, hcz40_7, hcz40_8, hcz40_9⟩ := cz10 BK424
     obtain ⟨hcz41_0, hcz41_1, hcz41_2, hcz41_3, hcz41_4, hcz41_5, hcz41_6, hcz41_7, hcz41_8, hcz41_9⟩ := cz10 BK425
     go_wp2
     go_ret
     exact ⟨rfl, nxD HB⟩
   ·replace c24 := Bool.eq_false_iff.mpr c24
    subst c24
    rw [if_neg (show ¬ (false = true) by decide)] at H
    obtain rfl := Option.some.inj H
    go_wp2
    go_ret
    exact ⟨rfl, nxD HB⟩
  ·replace c17 := Bool.eq_false_iff.mpr c17
   subst c17
   rw [if_neg (show ¬ (false = true) by decide)] at H
   obtain rfl := Option.some.inj H
   go_wp2
   go_ret
   exact ⟨rfl, nxD HB⟩
 ·replace c11 := Bool.eq_false_iff.mpr c11
  subst c11
  rw [if_neg (show ¬ (false = true) by decide)] at H
  obtain rfl := Option.some.inj H
  go_wp2
  go_ret
  exact ⟨rfl, nxD HB⟩
end Go.Proofs.YtilimpjcdeeaiaaGreat.G

