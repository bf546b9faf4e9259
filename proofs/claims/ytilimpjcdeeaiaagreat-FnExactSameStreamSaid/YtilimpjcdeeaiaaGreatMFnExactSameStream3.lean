import Derived.Test.YtilimpjcdeeaiaaGreatMFnExactSameStream2
set_option linter.unusedVariables false
set_option linter.unusedSimpArgs false
namespace Go.Proofs.YtilimpjcdeeaiaaGreat.G
open Go.RowKit Go.Proofs.YtilimpjcdeeaiaaGreatW.PrintWords Go.Proofs.YtilimpjcdeeaiaaGreatW.PrintLast Go.Proofs.YtilimpjcdeeaiaaGreatW.PrintMore
attribute [local go_sem] max2_int min2_int max_two min_two max_three min_three max_four min_four   -- for this text's walks alone
mutual
def spec_StreamOk.j0 : Nat → Bool → Int → Int → Int → Int → List (S53) → List (List Int) → List (List (List Int)) → Int → List (S79) → List Int → Option (Bool)
 | 0, _, _, _, _, _, _, _, _, _, _, _ => none
 | k + 1, x41, x236000, x236001, x236002, x236003, x236004, x236005, x236006, x236007, x236008, x236009 => if x41 = true then (some false) else (spec_StreamOk.l0 k 0 x236000 x236001 x236002 x236003 x236004 x236005 x236006 x236007 x236008 x236009)
def spec_StreamOk.l0 : Nat → Int → Int → Int → Int → Int → List (S53) → List (List Int) → List (List (List Int)) → Int → List (S79) → List Int → Option (Bool)
 | 0, _, _, _, _, _, _, _, _, _, _, _ => none
 | k + 1, x3, x236000, x236001, x236002, x236003, x236004, x236005, x236006, x236007, x236008, x236009 => if x3 < 4 then (if 0 ≤ x3 then (if x3 < (x236005.length : Int) then ((spec_TableOk.f k (rd_L2 x236005 x3)).bind fun t241 => (if t241 = true then (spec_StreamOk.l0 k (wrap64 (x3 + 1)) x236000 x236001 x236002 x236003 x236004 x236005 x236006 x236007 x236008 x236009) else (some false))) else (none)) else (none)) else (some true)
end
def spec_StreamOk.f (k : Nat) (a0_0 : Int) (a0_1 : Int) (a0_2 : Int) (a0_3 : Int) (l0_4 : List (S53)) (l0_5 : List (List Int)) (l0_6 : List (List (List Int))) (a0_7 : Int) (l0_8 : List (S79)) (l0_9 : List Int) : Option (Bool) := (spec_FrameOk.f k a0_0 a0_1 a0_2 a0_3 l0_4).bind fun t236 => (if t236 = true then (if (l0_5.length : Int) = 4 then ((spec_CoefsOk.f k a0_0 a0_1 a0_2 a0_3 l0_4 l0_6).bind fun t237 => (if t237 = true then ((spec_l01Between.f a0_7 0 1).bind fun t238 => (if t238 = true then ((spec_ScriptOk.f k a0_0 a0_1 a0_2 a0_3 l0_4 l0_8).bind fun t239 => (if t239 = true then (spec_StreamOk.j0 k (decide ((l0_9.length : Int) > 1000)) a0_0 a0_1 a0_2 a0_3 l0_4 l0_5 l0_6 a0_7 l0_8 l0_9) else (spec_StreamOk.j0 k true a0_0 a0_1 a0_2 a0_3 l0_4 l0_5 l0_6 a0_7 l0_8 l0_9))) else (spec_StreamOk.j0 k true a0_0 a0_1 a0_2 a0_3 l0_4 l0_5 l0_6 a0_7 l0_8 l0_9))) else (spec_StreamOk.j0 k true a0_0 a0_1 a0_2 a0_3 l0_4 l0_5 l0_6 a0_7 l0_8 l0_9))) else (spec_StreamOk.j0 k true a0_0 a0_1 a0_2 a0_3 l0_4 l0_5 l0_6 a0_7 l0_8 l0_9)) else (spec_StreamOk.j0 k true a0_0 a0_1 a0_2 a0_3 l0_4 l0_5 l0_6 a0_7 l0_8 l0_9))
set_option maxHeartbeats 8000000 in
set_option maxRecDepth 100000 in
theorem spec_StreamOk.calls (k : Nat) (a0_0 : Int) (a0_1 : Int) (a0_2 : Int) (a0_3 : Int) (A0_4 : Option Addr) (c0_4 : Nat) (l0_4 : List (S53)) (A0_5 : Option Addr) (c0_5 : Nat) (l0_5 : List (List Int)) (A0_6 : Option Addr) (c0_6 : Nat) (l0_6 : List (List (List Int))) (a0_7 : Int) (A0_8 : Option Addr) (c0_8 : Nat) (l0_8 : List (S79)) (A0_9 : Option Addr) (c0_9 : Nat) (l0_9 : List Int) (r : Bool) (w : World) (hr0_4 : Kd.C k53 w A0_4 l0_4.length l0_4) (hc0_4 : l0_4.length ≤ c0_4) (hr0_5 : Kd.C (Kd.slice 3 (Kd.int .i64)) w A0_5 l0_5.length l0_5) (hc0_5 : l0_5.length ≤ c0_5) (hr0_6 : Kd.C (Kd.slice 66 (Kd.slice 3 (Kd.int .i64))) w A0_6 l0_6.length l0_6) (hc0_6 : l0_6.length ≤ c0_6) (hr0_8 : Kd.C k79 w A0_8 l0_8.length l0_8) (hc0_8 : l0_8.length ≤ c0_8) (hr0_9 : Kd.C (Kd.int .u8) w A0_9 l0_9.length l0_9) (hc0_9 : l0_9.length ≤ c0_9) (h : spec_StreamOk.f k a0_0 a0_1 a0_2 a0_3 l0_4 l0_5 l0_6 a0_7 l0_8 l0_9 = some r) :
  Calls Tryz.prog 14 #[.agg #[.int .i64 a0_0, .int .i64 a0_1, .int .i64 a0_2, .int .i64 a0_3, .slice A0_4 l0_4.length c0_4, .slice A0_5 l0_5.length c0_5, .slice A0_6 l0_6.length c0_6, .int .i64 a0_7, .slice A0_8 l0_8.length c0_8, .slice A0_9 l0_9.length c0_9]] w fun e w' => e = .returned (.bool r) ∧ Below w.heap.size w w' := by
 have hu41 := Tryz.underlying41
 have hu37 := Tryz.underlying37
 have hu38 := Tryz.underlying38
 have HR0_4 := zA hr0_4
 have HC0_4 := zA hc0_4
 clear hr0_4 hc0_4
 have HR0_5 := zA hr0_5
 have HC0_5 := zA hc0_5
 clear hr0_5 hc0_5
 have HR0_6 := zA hr0_6
 have HC0_6 := zA hc0_6
 clear hr0_6 hc0_6
 have HR0_8 := zA hr0_8
 have HC0_8 := zA hc0_8
 clear hr0_8 hc0_8
 have HR0_9 := zA hr0_9
 have HC0_9 := zA hc0_9
 clear hr0_9 hc0_9
 have HB := zA (Below.refl w.heap.size w)
 have H : ((spec_FrameOk.f k a0_0 a0_1 a0_2 a0_3 l0_4).bind fun t236 => (if t236 = true then (if (l0_5.length : Int) = 4 then ((spec_CoefsOk.f k a0_0 a0_1 a0_2 a0_3 l0_4 l0_6).bind fun t237 => (if t237 = true then ((spec_l01Between.f a0_7 0 1).bind fun t238 => (if t238 = true then ((spec_ScriptOk.f k a0_0 a0_1 a0_2 a0_3 l0_4 l0_8).bind fun t239 => (if t239 = true then (spec_StreamOk.j0 k (decide ((l0_9.length : Int) > 1000)) a0_0 a0_1 a0_2 a0_3 l0_4 l0_5 l0_6 a0_7 l0_8 l0_9) else (spec_StreamOk.j0 k true a0_0 a0_1 a0_2 a0_3 l0_4 l0_5 l0_6 a0_7 l0_8 l0_9))) else (spec_StreamOk.j0 k true a0_0 a0_1 a0_2 a0_3 l0_4 l0_5 l0_6 a0_7 l0_8 l0_9))) else (spec_StreamOk.j0 k true a0_0 a0_1 a0_2 a0_3 l0_4 l0_5 l0_6 a0_7 l0_8 l0_9))) else (spec_StreamOk.j0 k true a0_0 a0_1 a0_2 a0_3 l0_4 l0_5 l0_6 a0_7 l0_8 l0_9)) else (spec_StreamOk.j0 k true a0_0 a0_1 a0_2 a0_3 l0_4 l0_5 l0_6 a0_7 l0_8 l0_9))) = some r := h
 clear h
 have HC2 := zA H
 clear H
 go_enter Tryz.func14, Tryz.ntmps14
 go_upto_region 1 with (first | ((with_reducible refine gate_dst (N := 1) rfl ?_); refine nxX (N := 1) (cs := #[.int .i64 a0_0, .int .i64 a0_1, .int .i64 a0_2, .int .i64 a0_3, .slice A0_4 l0_4.length c0_4, .slice A0_5 l0_5.length c0_5, .slice A0_6 l0_6.length c0_6, .int .i64 a0_7, .slice A0_8 l0_8.length c0_8, .slice A0_9 l0_9.length c0_9]) (t := 41) ?_; intro gb235 hg w3 hbox hb; have BK235 := zA (hbox); have GE235 := nxG HB hg; replace HB := nxH hb HB; clear hb hbox hg))
 (try simp only [Act.put, List.setIfInBounds_toArray, List.set_cons_zero, List.set_cons_succ])
 go_cut [41] (fun v41 wc => ∃ (kq : Nat) (x41_1 : Bool), v41 = .bool x41_1 ∧ Aside0 (spec_StreamOk.j0 kq x41_1 a0_0 a0_1 a0_2 a0_3 l0_4 l0_5 l0_6 a0_7 l0_8 l0_9 = some r) ∧ Aside0 (kq ≤ k) ∧ Aside0 (wc.heap[gb235]? = some (.cells #[.int .i64 a0_0, .int .i64 a0_1, .int .i64 a0_2, .int .i64 a0_3, (.slice A0_4 l0_4.length c0_4), (.slice A0_5 l0_5.length c0_5), (.slice A0_6 l0_6.length c0_6), .int .i64 a0_7, (.slice A0_8 l0_8.length c0_8), (.slice A0_9 l0_9.length c0_9)] 41 (0, 0))) ∧ Aside0 (Below w.heap.size w wc))
 case first =>
  have H := HC2.out
  clear HC2
  replace H := Option.bind_eq_some_iff.mp H
  obtain ⟨t236, A40, H⟩ := H
  try dsimp only at H
  have A4 := zA A40
  clear A40
  by_cases c5 : t236 = true
  ·subst c5
   rw [if_pos rfl] at H
   by_cases c6 : (l0_5.length : Int) = 4
   ·rw [if_pos c6] at H
    have c6b0 : ((l0_5.length : Int) == 4) = true := beq_iff_eq.mpr c6
    have c6b1 : ((l0_5.length : Int) != 4) = false := bne_eq_false_iff_eq.mpr c6
    clear c6
    (first | rw [c6b0] | rw [c6b1] | (simp only [i64_w, i32_w]; first | rw [c6b0] | rw [c6b1]) | skip)
    replace H := Option.bind_eq_some_iff.mp H
    obtain ⟨t237, A70, H⟩ := H
    try dsimp only at H
    have A7 := zA A70
    clear A70
    by_cases c8 : t237 = true
    ·subst c8
     rw [if_pos rfl] at H
     replace H := Option.bind_eq_some_iff.mp H
     obtain ⟨t238, A90, H⟩ := H
     try dsimp only at H
     have A9 := zA A90
     clear A90
     by_cases c10 : t238 = true
     ·subst c10
      rw [if_pos rfl] at H
      replace H := Option.bind_eq_some_iff.mp H
      obtain ⟨t239, A110, H⟩ := H
      try dsimp only at H
      have A11 := zA A110
      clear A110
      by_cases c12 : t239 = true
      ·subst c12
       rw [if_pos rfl] at H
       have H' := zA H
       clear H
       obtain ⟨hcz13_0, hcz13_1, hcz13_2, hcz13_3, hcz13_4, hcz13_5, hcz13_6, hcz13_7, hcz13_8, hcz13_9⟩ := cz10 BK235
       go_wp2_with (first | ((with_reducible refine gate_callee (f := 36) rfl ?_); refine goesL_ (some 6) rfl rfl Tryz.func36 (by kernel_rfl) rfl #[.agg #[.int .i64 a0_0, .int .i64 a0_1, .int .i64 a0_2, .int .i64 a0_3, .slice A0_4 l0_4.length c0_4]] rfl (by (try simp only [zU, zV, zW]); first | done | rfl | (simp only [zR, zQ]; rfl)) ?_; (with_reducible refine (spec_FrameOk.calls k a0_0 a0_1 a0_2 a0_3 _ _ l0_4 true _ ?side1 ?side2 A4.out).mono ?_); (case side1 => exact nxC HR0_4 HB); (case side2 => exact HC0_4.out); rintro e w14 ⟨rfl, hb⟩; refine ⟨_, rfl, ?_⟩; replace BK235 := nxB hb BK235; replace HB := nxH hb HB; (try clear hb); (try clear hb2); (try clear hk); (try clear hi); obtain ⟨hcz15_0, hcz15_1, hcz15_2, hcz15_3, hcz15_4, hcz15_5, hcz15_6, hcz15_7, hcz15_8, hcz15_9⟩ := cz10 BK235) | (go_at_call 37; (with_reducible refine (spec_CoefsOk.calls k a0_0 a0_1 a0_2 a0_3 _ _ l0_4 _ _ l0_6 true _ ?side1 ?side2 ?side3 ?side4 A7.out).mono ?_); (case side1 => exact nxC HR0_4 HB); (case side2 => exact HC0_4.out); (case side3 => exact nxC HR0_6 HB); (case side4 => exact HC0_6.out); rintro e w16 ⟨rfl, hb⟩; replace BK235 := nxB hb BK235; replace HB := nxH hb HB; (try clear hb); (try clear hb2); (try clear hk); (try clear hi); obtain ⟨hcz17_0, hcz17_1, hcz17_2, hcz17_3, hcz17_4, hcz17_5, hcz17_6, hcz17_7, hcz17_8, hcz17_9⟩ := cz10 BK235) | (go_at_call 38; (with_reducible refine (spec_l01Between.calls a0_7 0 1 true _ A9.out).mono ?_); rintro e w' ⟨rfl, ⟨nd, rfl⟩⟩) | (go_at_call 39; (with_reducible refine (spec_ScriptOk.calls k a0_0 a0_1 a0_2 a0_3 _ _ l0_4 _ _ l0_8 true _ ?side1 ?side2 ?side3 ?side4 A11.out).mono ?_); (case side1 => repeat (first | exact (Kd.C_below HR0_4.out (by repeat (first | (with_reducible first | exact HB.out | apply zC | apply zB | apply zF | refine zE ?_ GE235.out) | exact HB.out))) | (with_reducible refine yH ?_ _) | (with_reducible refine yF ?_ _) | (with_reducible refine yG ?_))); (case side2 => exact HC0_4.out); (case side3 => repeat (first | exact (Kd.C_below HR0_8.out (by repeat (first | (with_reducible first | exact HB.out | apply zC | apply zB | apply zF | refine zE ?_ GE235.out) | exact HB.out))) | (with_reducible refine yH ?_ _) | (with_reducible refine yF ?_ _) | (with_reducible refine yG ?_))); (case side4 => exact HC0_8.out); rintro e w18 ⟨rfl, hb⟩; replace BK235 := nxB hb BK235; replace HB := nxH hb HB; (try clear hb); (try clear hb2); (try clear hk); (try clear hi); obtain ⟨hcz19_0, hcz19_1, hcz19_2, hcz19_3, hcz19_4, hcz19_5, hcz19_6, hcz19_7, hcz19_8, hcz19_9⟩ := cz10 BK235))
       go_meet
       case rel => exact ⟨_, (decide ((l0_9.length : Int) > 1000)), rfl, H', ⟨Nat.le_refl _⟩, ⟨BK235.out⟩, ⟨nxD HB⟩⟩
      ·replace c12 := Bool.eq_false_iff.mpr c12
       subst c12
       rw [if_neg (show ¬ (false = true) by decide)] at H
       have H' := zA H
       clear H
       obtain ⟨hcz20_0, hcz20_1, hcz20_2, hcz20_3, hcz20_4, hcz20_5, hcz20_6, hcz20_7, hcz20_8, hcz20_9⟩ := cz10 BK235
       go_wp2_with (first | ((with_reducible refine gate_callee (f := 36) rfl ?_); refine goesL_ (some 6) rfl rfl Tryz.func36 (by kernel_rfl) rfl #[.agg #[.int .i64 a0_0, .int .i64 a0_1, .int .i64 a0_2, .int .i64 a0_3, .slice A0_4 l0_4.length c0_4]] rfl (by (try simp only [zU, zV, zW]); first | done | rfl | (simp only [zR, zQ]; rfl)) ?_; (with_reducible refine (spec_FrameOk.calls k a0_0 a0_1 a0_2 a0_3 _ _ l0_4 true _ ?side1 ?side2 A4.out).mono ?_); (case side1 => exact nxC HR0_4 HB); (case side2 => exact HC0_4.out); rintro e w21 ⟨rfl, hb⟩; refine ⟨_, rfl, ?_⟩; replace BK235 := nxB hb BK235; replace HB := nxH hb HB; (try clear hb); (try clear hb2); (try clear hk); (try clear hi); obtain ⟨hcz22_0, hcz22_1, hcz22_2, hcz22_3, hcz22_4, hcz22_5, hcz22_6, hcz22_7, hcz22_8, hcz22_9⟩ := cz10 BK235) | (go_at_call 37; (with_reducible refine (spec_CoefsOk.calls k a0_0 a0_1 a0_2 a0_3 _ _ l0_4 _ _ l0_6 true _ ?side1 ?side2 ?side3 ?side4 A7.out).mono ?_); (case side1 => exact nxC HR0_4 HB); (case side2 => exact HC0_4.out); (case side3 => exact nxC HR0_6 HB); (case side4 => exact HC0_6.out); rintro e w23 ⟨rfl, hb⟩; replace BK235 := nxB hb BK235; replace HB := nxH hb HB; (try clear hb); (try clear hb2); (try clear hk); (try clear hi); obtain ⟨hcz24_0, hcz24_1, hcz24_2, hcz24_3, hcz24_4, hcz24_5, hcz24_6, hcz24_7, hcz24_8, hcz24_9⟩ := cz10 BK235) | (go_at_call 38; (with_reducible refine (spec_l01Between.calls a0_7 0 1 true _ A9.out).mono ?_); rintro e w' ⟨rfl, ⟨nd, rfl⟩⟩) | (go_at_call 39; (with_reducible refine (spec_ScriptOk.calls k a0_0 a0_1 a0_2 a0_3 _ _ l0_4 _ _ l0_8 false _ ?side1 ?side2 ?side3 ?side4 A11.out).mono ?_); (case side1 => repeat (first | exact (Kd.C_below HR0_4.out (by repeat (first | (with_reducible first | exact HB.out | apply zC | apply zB | apply zF | refine zE ?_ GE235.out) | exact HB.out))) | (with_reducible refine yH ?_ _) | (with_reducible refine yF ?_ _) | (with_reducible refine yG ?_))); (case side2 => exact HC0_4.out); (case side3 => repeat (first | exact (Kd.C_below HR0_8.out (by repeat (first | (with_reducible first | exact HB.out | apply zC | apply zB | apply zF | refine zE ?_ GE235.out) | exact HB.out))) | (with_reducible refine yH ?_ _) | (with_reducible refine yF ?_ _) | (with_reducible refine yG ?_))); (case side4 => exact HC0_8.out); rintro e w25 ⟨rfl, hb⟩; replace BK235 := nxB hb BK235; replace HB := nxH hb HB; (try clear hb); (try clear hb2); (try clear hk); (try clear hi)))
       go_meet
       case rel => exact ⟨_, (true), rfl, H', ⟨Nat.le_refl _⟩, ⟨BK235.out⟩, ⟨nxD HB⟩⟩
     ·replace c10 := Bool.eq_false_iff.mpr c10
      subst c10
      rw [if_neg (show ¬ (false = true) by decide)] at H
      have H' := zA H
      clear H
      obtain ⟨hcz26_0, hcz26_1, hcz26_2, hcz26_3, hcz26_4, hcz26_5, hcz26_6, hcz26_7, hcz26_8, hcz26_9⟩ := cz10 BK235
      go_wp2_with (first | ((with_reducible refine gate_callee (f := 36) rfl ?_); refine goesL_ (some 6) rfl rfl Tryz.func36 (by kernel_rfl) rfl #[.agg #[.int .i64 a0_0, .int .i64 a0_1, .int .i64 a0_2, .int .i64 a0_3, .slice A0_4 l0_4.length c0_4]] rfl (by (try simp only [zU, zV, zW]); first | done | rfl | (simp only [zR, zQ]; rfl)) ?_; (with_reducible refine (spec_FrameOk.calls k a0_0 a0_1 a0_2 a0_3 _ _ l0_4 true _ ?side1 ?side2 A4.out).mono ?_); (case side1 => exact nxC HR0_4 HB); (case side2 => exact HC0_4.out); rintro e w27 ⟨rfl, hb⟩; refine ⟨_, rfl, ?_⟩; replace BK235 := nxB hb BK235; replace HB := nxH hb HB; (try clear hb); (try clear hb2); (try clear hk); (try clear hi); obtain ⟨hcz28_0, hcz28_1, hcz28_2, hcz28_3, hcz28_4, hcz28_5, hcz28_6, hcz28_7, hcz28_8, hcz28_9⟩ := cz10 BK235) | (go_at_call 37; (with_reducible refine (spec_CoefsOk.calls k a0_0 a0_1 a0_2 a0_3 _ _ l0_4 _ _ l0_6 true _ ?side1 ?side2 ?side3 ?side4 A7.out).mono ?_); (case side1 => exact nxC HR0_4 HB); (case side2 => exact HC0_4.out); (case side3 => exact nxC HR0_6 HB); (case side4 => exact HC0_6.out); rintro e w29 ⟨rfl, hb⟩; replace BK235 := nxB hb BK235; replace HB := nxH hb HB; (try clear hb); (try clear hb2); (try clear hk); (try clear hi); obtain ⟨hcz30_0, hcz30_1, hcz30_2, hcz30_3, hcz30_4, hcz30_5, hcz30_6, hcz30_7, hcz30_8, hcz30_9⟩ := cz10 BK235) | (go_at_call 38; (with_reducible refine (spec_l01Between.calls a0_7 0 1 false _ A9.out).mono ?_); rintro e w' ⟨rfl, ⟨nd, rfl⟩⟩))
      go_meet
      case rel => exact ⟨_, (true), rfl, H', ⟨Nat.le_refl _⟩, ⟨BK235.out⟩, ⟨nxD HB⟩⟩
    ·replace c8 := Bool.eq_false_iff.mpr c8
     subst c8
     rw [if_neg (show ¬ (false = true) by decide)] at H
     have H' := zA H
     clear H
     obtain ⟨hcz31_0, hcz31_1, hcz31_2, hcz31_3, hcz31_4, hcz31_5, hcz31_6, hcz31_7, hcz31_8, hcz31_9⟩ := cz10 BK235
     go_wp2_with (first | ((with_reducible refine gate_callee (f := 36) rfl ?_); refine goesL_ (some 6) rfl rfl Tryz.func36 (by kernel_rfl) rfl #[.agg #[.int .i64 a0_0, .int .i64 a0_1, .int .i64 a0_2, .int .i64 a0_3, .slice A0_4 l0_4.length c0_4]] rfl (by (try simp only [zU, zV, zW]); first | done | rfl | (simp only [zR, zQ]; rfl)) ?_; (with_reducible refine (spec_FrameOk.calls k a0_0 a0_1 a0_2 a0_3 _ _ l0_4 true _ ?side1 ?side2 A4.out).mono ?_); (case side1 => exact nxC HR0_4 HB); (case side2 => exact HC0_4.out); rintro e w32 ⟨rfl, hb⟩; refine ⟨_, rfl, ?_⟩; replace BK235 := nxB hb BK235; replace HB := nxH hb HB; (try clear hb); (try clear hb2); (try clear hk); (try clear hi); obtain ⟨hcz33_0, hcz33_1, hcz33_2, hcz33_3, hcz33_4, hcz33_5, hcz33_6, hcz33_7, hcz33_8, hcz33_9⟩ := cz10 BK235) | (go_at_call 37; (with_reducible refine (spec_CoefsOk.calls k a0_0 a0_1 a0_2 a0_3 _ _ l0_4 _ _ l0_6 false _ ?side1 ?side2 ?side3 ?side4 A7.out).mono ?_); (case side1 => exact nxC HR0_4 HB); (case side2 => exact HC0_4.out); (case side3 => exact nxC HR0_6 HB); (case side4 => exact HC0_6.out); rintro e w34 ⟨rfl, hb⟩; replace BK235 := nxB hb BK235; replace HB := nxH hb HB; (try clear hb); (try clear hb2); (try clear hk); (try clear hi)))
     go_meet
     case rel => exact ⟨_, (true), rfl, H', ⟨Nat.le_refl _⟩, ⟨BK235.out⟩, ⟨nxD HB⟩⟩
   ·rw [if_neg c6] at H
    have c6b0 : ((l0_5.length : Int) == 4) = false := beq_eq_false_iff_ne.mpr c6
    have c6b1 : ((l0_5.length : Int) != 4) = true := bne_iff_ne.mpr c6
    (first | rw [c6b0] | rw [c6b1] | (simp only [i64_w, i32_w]; first | rw [c6b0] | rw [c6b1]) | skip)
    have H' := zA H
    clear H
    obtain ⟨hcz35_0, hcz35_1, hcz35_2, hcz35_3, hcz35_4, hcz35_5, hcz35_6, hcz35_7, hcz35_8, hcz35_9⟩ := cz10 BK235
    go_wp2_with (first | ((with_reducible refine gate_callee (f := 36) rfl ?_); refine goesL_ (some 6) rfl rfl Tryz.func36 (by kernel_rfl) rfl #[.agg #[.int .i64 a0_0, .int .i64 a0_1, .int .i64 a0_2, .int .i64 a0_3, .slice A0_4 l0_4.length c0_4]] rfl (by (try simp only [zU, zV, zW]); first | done | rfl | (simp only [zR, zQ]; rfl)) ?_; (with_reducible refine (spec_FrameOk.calls k a0_0 a0_1 a0_2 a0_3 _ _ l0_4 true _ ?side1 ?side2 A4.out).mono ?_); (case side1 => exact nxC HR0_4 HB); (case side2 => exact HC0_4.out); rintro e w36 ⟨rfl, hb⟩; refine ⟨_, rfl, ?_⟩; replace BK235 := nxB hb BK235; replace HB := nxH hb HB; (try clear hb); (try clear hb2); (try clear hk); (try clear hi); obtain ⟨hcz37_0, hcz37_1, hcz37_2, hcz37_3, hcz37_4, hcz37_5, hcz37_6, hcz37_7, hcz37_8, hcz37_9⟩ := cz10 BK235))
    go_meet
    case rel => exact ⟨_, (true), rfl, H', ⟨Nat.le_refl _⟩, ⟨BK235.out⟩, ⟨nxD HB⟩⟩
  ·replace c5 := Bool.eq_false_iff.mpr c5
   subst c5
   rw [if_neg (show ¬ (false = true) by decide)] at H
   have H' := zA H
   clear H
   obtain ⟨hcz38_0, hcz38_1, hcz38_2, hcz38_3, hcz38_4, hcz38_5, hcz38_6, hcz38_7, hcz38_8, hcz38_9⟩ := cz10 BK235
   go_wp2_with (first | ((with_reducible refine gate_callee (f := 36) rfl ?_); refine goesL_ (some 6) rfl rfl Tryz.func36 (by kernel_rfl) rfl #[.agg #[.int .i64 a0_0, .int .i64 a0_1, .int .i64 a0_2, .int .i64 a0_3, .slice A0_4 l0_4.length c0_4]] rfl (by (try simp only [zU, zV, zW]); first | done | rfl | (simp only [zR, zQ]; rfl)) ?_; (with_reducible refine (spec_FrameOk.calls k a0_0 a0_1 a0_2 a0_3 _ _ l0_4 false _ ?side1 ?side2 A4.out).mono ?_); (case side1 => exact nxC HR0_4 HB); (case side2 => exact HC0_4.out); rintro e w39 ⟨rfl, hb⟩; refine ⟨_, rfl, ?_⟩; replace BK235 := nxB hb BK235; replace HB := nxH hb HB; (try clear hb); (try clear hb2); (try clear hk); (try clear hi)))
   go_meet
   case rel => exact ⟨_, (true), rfl, H', ⟨Nat.le_refl _⟩, ⟨BK235.out⟩, ⟨nxD HB⟩⟩
 case rest =>
  clear HC2
  obtain ⟨kq, x41_1, rfl, HA, HJ1, BK235, HB⟩ := hcut
  cases kq with
  | zero => exact absurd HA.out (by simp [spec_StreamOk.j0])
  | succ kj1 =>
   have H := HA.out
   clear HA
   simp only [spec_StreamOk.j0] at H
   by_cases c40 : x41_1 = true
   ·subst c40
    rw [if_pos rfl] at H
    obtain rfl := Option.some.inj H
    go_wp2
    go_ret
    exact ⟨rfl, nxD HB⟩
   ·replace c40 := Bool.eq_false_iff.mpr c40
    subst c40
    rw [if_neg (show ¬ (false = true) by decide)] at H
    have H' := zA H
    clear H
    go_wp2
    go_loopg [3] kj1 (fun kq v3 w' => ∃ (x3_2 : Int), v3 = .int .i64 x3_2 ∧ Aside0 (spec_StreamOk.l0 kq x3_2 a0_0 a0_1 a0_2 a0_3 l0_4 l0_5 l0_6 a0_7 l0_8 l0_9 = some r) ∧ Aside0 (kq ≤ kj1) ∧ Aside0 (w'.heap[gb235]? = some (.cells #[.int .i64 a0_0, .int .i64 a0_1, .int .i64 a0_2, .int .i64 a0_3, (.slice A0_4 l0_4.length c0_4), (.slice A0_5 l0_5.length c0_5), (.slice A0_6 l0_6.length c0_6), .int .i64 a0_7, (.slice A0_8 l0_8.length c0_8), (.slice A0_9 l0_9.length c0_9)] 41 (0, 0))) ∧ Aside0 (Below w.heap.size w w'))
    case atStart => exact ⟨(0), rfl, H', ⟨Nat.le_refl _⟩, ⟨BK235.out⟩, ⟨nxD HB⟩⟩
    case round =>
     clear H'
     obtain ⟨x3_2, rfl, HA, HK2, BK235, HB⟩ := hrel
     cases gk with
     | zero => exact absurd HA.out (by simp [spec_StreamOk.l0])
     | succ k2 =>
      have H := HA.out
      clear HA
      simp only [spec_StreamOk.l0] at H
      by_cases c41 : x3_2 < 4
      ·rw [if_pos c41] at H
       have c41b0 := zT c41
       clear c41
       by_cases c42 : 0 ≤ x3_2
       ·rw [if_pos c42] at H
        have c42b0 := zT c42
        clear c42
        by_cases c43 : x3_2 < (l0_5.length : Int)
        ·rw [if_pos c43] at H
         have c43b0 := zT c43
         clear c43
         replace H := Option.bind_eq_some_iff.mp H
         obtain ⟨t241, A440, H⟩ := H
         try dsimp only at H
         have A44 := zA A440
         clear A440
         have HF45 := zA H
         clear H
         obtain ⟨hcz46_0, hcz46_1, hcz46_2, hcz46_3, hcz46_4, hcz46_5, hcz46_6, hcz46_7, hcz46_8, hcz46_9⟩ := cz10 BK235
         have p240 : 0 ≤ (x3_2 : Int) := zI (by first | (with_reducible assumption) | assumption)
         have q240 : x3_2 < (l0_5.length : Int) := zI (by first | (with_reducible assumption) | assumption)
         obtain ⟨ad240, A240_0, c240_0, e240, hx240_0, hl240_0, hi240_0⟩ := at_L2 HR0_5.out x3_2 p240 q240
         cases e240
         replace hx240_0 := (HB.out.cell (World.block_lt_of_cell? w _ hx240_0)).trans hx240_0
         have HR240_0 := zA hi240_0
         have HC240_0 := zA hl240_0
         clear hi240_0 hl240_0
         replace p240 := eq_true p240
         replace q240 := eq_true q240
         go_upto_if 52 with (first | ((with_reducible refine gate_callee (f := 40) rfl ?_); refine goesL_ (some 51) rfl rfl Tryz.func40 (by kernel_rfl) rfl #[.slice A240_0 (rd_L2 l0_5 x3_2).length c240_0] rfl (by (try simp only [zU, zV, zW]); first | done | rfl | (simp only [zR, zQ]; rfl)) ?_; (with_reducible refine (spec_TableOk.calls k2 _ _ (rd_L2 l0_5 x3_2) t241 _ ?side1 ?side2 A44.out).mono ?_); (case side1 => exact nxC HR240_0 HB); (case side2 => exact HC240_0.out); rintro e w' ⟨rfl, ⟨nd, rfl⟩⟩; refine ⟨_, rfl, ?_⟩))
         have H := HF45.out
         clear HF45
         by_cases c47 : t241 = true
         ·subst c47
          rw [if_pos rfl] at H
          have H' := zA H
          clear H
          go_wp2
          go_roundg k2
          case measure => have := HJ1.out; have := HK2.out; omega
          case rel => exact ⟨(wrap64 (x3_2 + 1)), rfl, H', ⟨by have := HJ1.out; have := HK2.out; omega⟩, ⟨BK235.out⟩, ⟨nxD HB⟩⟩
         ·replace c47 := Bool.eq_false_iff.mpr c47
          subst c47
          rw [if_neg (show ¬ (false = true) by decide)] at H
          obtain rfl := Option.some.inj H
          go_wp2
          go_ret
          exact ⟨rfl, nxD HB⟩
        ·rw [if_neg c43] at H
         exact absurd H (by simp)
       ·rw [if_neg c42] at H
        exact absurd H (by simp)
      ·rw [if_neg c41] at H
       have c41b0 := decide_eq_false c41
       clear c41
       obtain rfl := Option.some.inj H
       go_wp2
       go_ret
       exact ⟨rfl, nxD HB⟩
theorem spec_StreamOk.l0_ev (p w h r : Int) (l : List SC) (tb : List (List Int)) (pl : List (List (List Int))) (md : Int) (sc : List SN) (nt : List Int) (h4 : tb.length = 4) : ∀ (d i : Nat), i + d = 4 → Ev (fun k => spec_StreamOk.l0 k (i : Int) p w h r l tb pl md sc nt) ((tb.drop i).all tabM) := by
 intro d
 induction d with
 | zero =>
  intro i hi
  refine Ev.step (fun _ => by rw [spec_StreamOk.l0]) (Ev.ng (by omega) (Ev.eq (Ev.now _) ?_))
  rw [List.drop_of_length_le (by omega)]; rfl
 | succ d ih =>
  intro i hi
  have hlt : i < tb.length := by omega
  refine Ev.step (fun _ => by rw [spec_StreamOk.l0]) (Ev.ip (by omega) (Ev.ip (by omega) (Ev.ip (by omega) ?_)))
  rw [rdL2_nat tb i hlt, wrap_succ i (by omega), List.drop_eq_getElem_cons hlt, List.all_cons]
  refine Ev.bind (spec_TableOk.ev _) ?_
  cases e : tabM tb[i] with
  | true => exact Ev.ip rfl (Ev.eq (ih (i + 1) (by omega)) (by rw [Bool.true_and]))
  | false => exact Ev.ng (by simp) (Ev.now _)
theorem spec_StreamOk.j0_ev (p w h r : Int) (l : List SC) (tb : List (List Int)) (pl : List (List (List Int))) (md : Int) (sc : List SN) (nt : List Int) (b : Bool) (h4 : b = false → tb.length = 4) : Ev (fun k => spec_StreamOk.j0 k b p w h r l tb pl md sc nt) (!b && tb.all tabM) := by
 refine Ev.step (fun _ => by rw [spec_StreamOk.j0]) ?_
 cases b with
 | true => exact Ev.ip rfl (Ev.now _)
 | false => exact Ev.ng (by simp) (Ev.eq (spec_StreamOk.l0_ev p w h r l tb pl md sc nt (h4 rfl) 4 0 (by omega)) (by rw [List.drop_zero]; rfl))
theorem spec_StreamOk.ev (p w h r : Int) (l : List SC) (tb : List (List Int)) (pl : List (List (List Int))) (md : Int) (sc : List SN) (nt : List Int) (hp : pl.length ≤ 100000000) (hm : sc.length ≤ 2000000) (hsl : ∀ s ∈ sc, s.f0.length ≤ 2000000) : Ev (fun k => spec_StreamOk.f k p w h r l tb pl md sc nt) (streamOkM p w h r l tb pl md sc nt) := by
 have bad : Ev (fun k => spec_StreamOk.j0 k true p w h r l tb pl md sc nt) false := Ev.eq (spec_StreamOk.j0_ev p w h r l tb pl md sc nt true (fun e => by cases e)) rfl
 unfold spec_StreamOk.f streamOkM
 refine Ev.bind (spec_FrameOk.ev p w h r l) ?_
 cases e1 : frameOkM p w h r l with
 | false =>
  refine Ev.ng (by simp) (Ev.eq bad ?_)
  rw [coefsOkM, e1, Bool.false_and, Bool.false_and, Bool.and_false]
 | true =>
  refine Ev.ip rfl ?_
  by_cases e2 : tb.length = 4
  ·refine Ev.ip (by omega) (Ev.bind (spec_CoefsOk.ev p w h r l pl hp) ?_)
   rw [zT e2, Bool.true_and]
   cases e3 : coefsOkM p w h r l pl with
   | false => exact Ev.ng (by simp) (Ev.eq bad (by rw [Bool.false_and, Bool.and_false]))
   | true =>
    refine Ev.ip rfl (Ev.bind (Ev.c (spec_l01Between.val _ _ _)) ?_)
    cases e4 : (decide (0 ≤ md) && decide (md ≤ 1)) with
    | false => exact Ev.ng (by simp) (Ev.eq bad (by simp))
    | true =>
     refine Ev.ip rfl (Ev.bind (spec_ScriptOk.ev p w h r l sc hm hsl) ?_)
     cases e5 : scriptOkM p w h r l sc with
     | false => exact Ev.ng (by simp) (Ev.eq bad (by simp))
     | true =>
      refine Ev.ip rfl (Ev.eq (spec_StreamOk.j0_ev p w h r l tb pl md sc nt _ (fun _ => e2)) ?_)
      by_cases e6 : nt.length ≤ 1000
      ·rw [zT e6, decide_eq_false (by omega)]; simp
      ·rw [decide_eq_false e6, zT (by omega)]; simp
  ·refine Ev.ng (by omega) (Ev.eq bad ?_)
   rw [decide_eq_false e2]; rfl
end Go.Proofs.YtilimpjcdeeaiaaGreat.G


namespace Go.Proofs.YtilimpjcdeeaiaaGreat.G
open Go.RowKit Go.Proofs.YtilimpjcdeeaiaaGreatW.PrintWords Go.Proofs.YtilimpjcdeeaiaaGreatW.PrintLast Go.Proofs.YtilimpjcdeeaiaaGreatW.PrintMore
attribute [local go_sem] max2_int min2_int max_two min_two max_three min_three max_four min_four   -- for this text's walks alone
mutual
def spec_l19Lists.l0 : Nat → List (List Int) → List (List Int) → Int → Option (Bool)
 | 0, _, _, _ => none
 | k + 1, x0, x1, x5 => if x5 < (x0.length : Int) then (if 0 ≤ x5 then (if x5 < (x1.length : Int) then (if ((rd_L2 x0 x5).length : Int) = ((rd_L2 x1 x5).length : Int) then (spec_l19Lists.l1 k x0 x1 x5 0) else (some false)) else (none)) else (none)) else (some true)
def spec_l19Lists.l1 : Nat → List (List Int) → List (List Int) → Int → Int → Option (Bool)
 | 0, _, _, _, _ => none
 | k + 1, x0, x1, x5, x6 => if 0 ≤ x5 then (if x5 < (x0.length : Int) then (if x6 < ((rd_L2 x0 x5).length : Int) then (if 0 ≤ x6 then (if x5 < (x1.length : Int) then (if x6 < ((rd_L2 x1 x5).length : Int) then (if (rd (rd_L2 x0 x5) x6) = (rd (rd_L2 x1 x5) x6) then (spec_l19Lists.l1 k x0 x1 x5 (wrap64 (x6 + 1))) else (some false)) else (none)) else (none)) else (none)) else (spec_l19Lists.l0 k x0 x1 (wrap64 (x5 + 1)))) else (none)) else (none)
end
def spec_l19Lists.f (k : Nat) (l0 : List (List Int)) (l1 : List (List Int)) : Option (Bool) := if (l0.length : Int) = (l1.length : Int) then (spec_l19Lists.l0 k l0 l1 0) else (some false)
set_option maxHeartbeats 8000000 in
set_option maxRecDepth 100000 in
theorem spec_l19Lists.calls (k : Nat) (A0 : Option Addr) (c0 : Nat) (l0 : List (List Int)) (A1 : Option Addr) (c1 : Nat) (l1 : List (List Int)) (r : Bool) (w : World) (hr0 : Kd.C (Kd.slice 3 (Kd.int .i64)) w A0 l0.length l0) (hc0 : l0.length ≤ c0) (hr1 : Kd.C (Kd.slice 3 (Kd.int .i64)) w A1 l1.length l1) (hc1 : l1.length ≤ c1) (h : spec_l19Lists.f k l0 l1 = some r) :
  Calls Tryz.prog 15 #[.slice A0 l0.length c0, .slice A1 l1.length c1] w fun e w' => e = .returned (.bool r) ∧ Drawn0 w w' := by
 have HR0 := zA hr0
 have HC0 := zA hc0
 clear hr0 hc0
 have HR1 := zA hr1
 have HC1 := zA hc1
 clear hr1 hc1
 have H : (if (l0.length : Int) = (l1.length : Int) then (spec_l19Lists.l0 k l0 l1 0) else (some false)) = some r := h
 clear h
 by_cases c3 : (l0.length : Int) = (l1.length : Int)
 ·rw [if_pos c3] at H
  have c3b0 : ((l0.length : Int) == (l1.length : Int)) = true := beq_iff_eq.mpr c3
  have c3b1 : ((l0.length : Int) != (l1.length : Int)) = false := bne_eq_false_iff_eq.mpr c3
  have c3b2 : (l0.length == l1.length) = true := by first | simpa using c3 | (simp at c3 ⊢; omega)
  clear c3
  have H' := zA H
  clear H
  go_enter Tryz.func15, Tryz.ntmps15
  go_wp2
  repeat (go_quiet (fail); try go_wp2)
  go_loopg [5] k (fun kq v5 w' => ∃ (x5_1 : Int), v5 = .int .i64 x5_1 ∧ Aside0 (spec_l19Lists.l0 kq l0 l1 x5_1 = some r) ∧ Aside0 (kq ≤ k) ∧ Drawn0 w w')
  case atStart => exact ⟨(0), rfl, H', ⟨Nat.le_refl _⟩, by repeat (first | exact Drawn0.refl _ | apply Drawn0.step)⟩
  case round =>
   clear H'
   try clear c3b0
   try clear c3b1
   try clear c3b2
   obtain ⟨x5_1, rfl, HA, HK1, ⟨m1, rfl⟩⟩ := hrel
   cases gk with
   | zero => exact absurd HA.out (by simp [spec_l19Lists.l0])
   | succ k1 =>
    have H := HA.out
    clear HA
    simp only [spec_l19Lists.l0] at H
    by_cases c4 : x5_1 < (l0.length : Int)
    ·rw [if_pos c4] at H
     have c4b0 := zT c4
     clear c4
     by_cases c5 : 0 ≤ x5_1
     ·rw [if_pos c5] at H
      have c5b0 := zT c5
      clear c5
      by_cases c6 : x5_1 < (l1.length : Int)
      ·rw [if_pos c6] at H
       have c6b0 := zT c6
       clear c6
       by_cases c7 : ((rd_L2 l0 x5_1).length : Int) = ((rd_L2 l1 x5_1).length : Int)
       ·rw [if_pos c7] at H
        have c7b0 : (((rd_L2 l0 x5_1).length : Int) == ((rd_L2 l1 x5_1).length : Int)) = true := beq_iff_eq.mpr c7
        have c7b1 : (((rd_L2 l0 x5_1).length : Int) != ((rd_L2 l1 x5_1).length : Int)) = false := bne_eq_false_iff_eq.mpr c7
        have c7b2 : ((rd_L2 l0 x5_1).length == (rd_L2 l1 x5_1).length) = true := by first | simpa using c7 | (simp at c7 ⊢; omega)
        clear c7
        have H' := zA H
        clear H
        have p242 : 0 ≤ (x5_1 : Int) := zI (by first | (with_reducible assumption) | assumption)
        have q242 : x5_1 < (l0.length : Int) := zI (by first | (with_reducible assumption) | assumption)
        obtain ⟨ad242, A242_0, c242_0, e242, hx242_0, hl242_0, hi242_0⟩ := at_L2 HR0.out x5_1 p242 q242
        cases e242
        have HR242_0 := zA hi242_0
        have HC242_0 := zA hl242_0
        clear hi242_0 hl242_0
        replace p242 := eq_true p242
        replace q242 := eq_true q242
        have p243 : 0 ≤ (x5_1 : Int) := zI (by first | (with_reducible assumption) | assumption)
        have q243 : x5_1 < (l1.length : Int) := zI (by first | (with_reducible assumption) | assumption)
        obtain ⟨ad243, A243_0, c243_0, e243, hx243_0, hl243_0, hi243_0⟩ := at_L2 HR1.out x5_1 p243 q243
        cases e243
        have HR243_0 := zA hi243_0
        have HC243_0 := zA hl243_0
        clear hi243_0 hl243_0
        replace p243 := eq_true p243
        replace q243 := eq_true q243
        go_wp2
        repeat (go_quiet (fail); try go_wp2)
        go_loopg [6] k1 (fun kq v6 w' => ∃ (x6_2 : Int), v6 = .int .i64 x6_2 ∧ Aside0 (spec_l19Lists.l1 kq l0 l1 x5_1 x6_2 = some r) ∧ Aside0 (kq ≤ k1) ∧ Drawn0 w w')
        case atStart => exact ⟨(0), rfl, H', ⟨Nat.le_refl _⟩, by repeat (first | exact Drawn0.refl _ | apply Drawn0.step)⟩
        case round =>
         clear H'
         try clear c4b0
         try clear c5b0
         try clear c6b0
         try clear c7b0
         try clear c7b1
         try clear c7b2
         try clear hx242_0
         try clear hx243_0
         try clear p242
         try clear p243
         try clear q242
         try clear q243
         obtain ⟨x6_2, rfl, HA, HK2, ⟨m2, rfl⟩⟩ := hrel
         cases gk with
         | zero => exact absurd HA.out (by simp [spec_l19Lists.l1])
         | succ k2 =>
          have H := HA.out
          clear HA
          simp only [spec_l19Lists.l1] at H
          by_cases c8 : 0 ≤ x5_1
          ·rw [if_pos c8] at H
           have c8b0 := zT c8
           clear c8
           by_cases c9 : x5_1 < (l0.length : Int)
           ·rw [if_pos c9] at H
            have c9b0 := zT c9
            clear c9
            by_cases c10 : x6_2 < ((rd_L2 l0 x5_1).length : Int)
            ·rw [if_pos c10] at H
             have c10b0 := zT c10
             clear c10
             by_cases c11 : 0 ≤ x6_2
             ·rw [if_pos c11] at H
              have c11b0 := zT c11
              clear c11
              by_cases c12 : x5_1 < (l1.length : Int)
              ·rw [if_pos c12] at H
               have c12b0 := zT c12
               clear c12
               by_cases c13 : x6_2 < ((rd_L2 l1 x5_1).length : Int)
               ·rw [if_pos c13] at H
                have c13b0 := zT c13
                clear c13
                by_cases c14 : (rd (rd_L2 l0 x5_1) x6_2) = (rd (rd_L2 l1 x5_1) x6_2)
                ·rw [if_pos c14] at H
                 have c14b0 : ((rd (rd_L2 l0 x5_1) x6_2) == (rd (rd_L2 l1 x5_1) x6_2)) = true := beq_iff_eq.mpr c14
                 have c14b1 : ((rd (rd_L2 l0 x5_1) x6_2) != (rd (rd_L2 l1 x5_1) x6_2)) = false := bne_eq_false_iff_eq.mpr c14
                 clear c14
                 have H' := zA H
                 clear H
                 have p244 : 0 ≤ (x5_1 : Int) := zI (by first | (with_reducible assumption) | assumption)
                 have q244 : x5_1 < (l0.length : Int) := zI (by first | (with_reducible assumption) | assumption)
                 obtain ⟨ad244, A244_0, c244_0, e244, hx244_0, hl244_0, hi244_0⟩ := at_L2 HR0.out x5_1 p244 q244
                 obtain rfl : ad242 = ad244 := (by injection e244)
                 have HR244_0 := zA hi244_0
                 have HC244_0 := zA hl244_0
                 clear hi244_0 hl244_0
                 replace p244 := eq_true p244
                 replace q244 := eq_true q244
                 have p245 : 0 ≤ (x5_1 : Int) := zI (by first | (with_reducible assumption) | assumption)
                 have q245 : x5_1 < (l0.length : Int) := zI (by first | (with_reducible assumption) | assumption)
                 obtain ⟨ad245, A245_0, c245_0, e245, hx245_0, hl245_0, hi245_0⟩ := at_L2 HR0.out x5_1 p245 q245
                 obtain rfl : ad242 = ad245 := (by injection e245)
                 have HR245_0 := zA hi245_0
                 have HC245_0 := zA hl245_0
                 clear hi245_0 hl245_0
                 replace p245 := eq_true p245
                 replace q245 := eq_true q245
                 have ea_ := Option.some.inj (hx244_0.symm.trans hx245_0)
                 injection ea_ with ea_ en_ ec_
                 subst ea_
                 subst ec_
                 clear en_
                 have p246 : 0 ≤ (x6_2 : Int) := zI (by first | (with_reducible assumption) | assumption)
                 have q246 : x6_2 < ((rd_L2 l0 x5_1).length : Int) := zI (by first | (with_reducible assumption) | assumption)
                 obtain ⟨ad246, e246, hx246_0⟩ := Kd.at_int HR245_0.out x6_2 p246 q246
                 cases e246
                 replace p246 := eq_true p246
                 replace q246 := eq_true q246
                 have p247 : 0 ≤ (x5_1 : Int) := zI (by first | (with_reducible assumption) | assumption)
                 have q247 : x5_1 < (l1.length : Int) := zI (by first | (with_reducible assumption) | assumption)
                 obtain ⟨ad247, A247_0, c247_0, e247, hx247_0, hl247_0, hi247_0⟩ := at_L2 HR1.out x5_1 p247 q247
                 obtain rfl : ad243 = ad247 := (by injection e247)
                 have HR247_0 := zA hi247_0
                 have HC247_0 := zA hl247_0
                 clear hi247_0 hl247_0
                 replace p247 := eq_true p247
                 replace q247 := eq_true q247
                 have p248 : 0 ≤ (x6_2 : Int) := zI (by first | (with_reducible assumption) | assumption)
                 have q248 : x6_2 < ((rd_L2 l1 x5_1).length : Int) := zI (by first | (with_reducible assumption) | assumption)
                 obtain ⟨ad248, e248, hx248_0⟩ := Kd.at_int HR247_0.out x6_2 p248 q248
                 cases e248
                 replace p248 := eq_true p248
                 replace q248 := eq_true q248
                 go_wp2
                 repeat (go_quiet (fail); try go_wp2)
                 go_roundg k2
                 case measure => have := HK1.out; have := HK2.out; omega
                 case rel => exact ⟨(wrap64 (x6_2 + 1)), rfl, H', ⟨by have := HK1.out; have := HK2.out; omega⟩, by repeat (first | exact Drawn0.refl _ | apply Drawn0.step)⟩
                ·rw [if_neg c14] at H
                 have c14b0 : ((rd (rd_L2 l0 x5_1) x6_2) == (rd (rd_L2 l1 x5_1) x6_2)) = false := beq_eq_false_iff_ne.mpr c14
                 have c14b1 : ((rd (rd_L2 l0 x5_1) x6_2) != (rd (rd_L2 l1 x5_1) x6_2)) = true := bne_iff_ne.mpr c14
                 obtain rfl := Option.some.inj H
                 have p244 : 0 ≤ (x5_1 : Int) := zI (by first | (with_reducible assumption) | assumption)
                 have q244 : x5_1 < (l0.length : Int) := zI (by first | (with_reducible assumption) | assumption)
                 obtain ⟨ad244, A244_0, c244_0, e244, hx244_0, hl244_0, hi244_0⟩ := at_L2 HR0.out x5_1 p244 q244
                 obtain rfl : ad242 = ad244 := (by injection e244)
                 have HR244_0 := zA hi244_0
                 have HC244_0 := zA hl244_0
                 clear hi244_0 hl244_0
                 replace p244 := eq_true p244
                 replace q244 := eq_true q244
                 have p245 : 0 ≤ (x5_1 : Int) := zI (by first | (with_reducible assumption) | assumption)
                 have q245 : x5_1 < (l0.length : Int) := zI (by first | (with_reducible assumption) | assumption)
                 obtain ⟨ad245, A245_0, c245_0, e245, hx245_0, hl245_0, hi245_0⟩ := at_L2 HR0.out x5_1 p245 q245
                 obtain rfl : ad242 = ad245 := (by injection e245)
                 have HR245_0 := zA hi245_0
                 have HC245_0 := zA hl245_0
                 clear hi245_0 hl245_0
                 replace p245 := eq_true p245
                 replace q245 := eq_true q245
                 have ea_ := Option.some.inj (hx244_0.symm.trans hx245_0)
                 injection ea_ with ea_ en_ ec_
                 subst ea_
                 subst ec_
                 clear en_
                 have p246 : 0 ≤ (x6_2 : Int) := zI (by first | (with_reducible assumption) | assumption)
                 have q246 : x6_2 < ((rd_L2 l0 x5_1).length : Int) := zI (by first | (with_reducible assumption) | assumption)
                 obtain ⟨ad246, e246, hx246_0⟩ := Kd.at_int HR245_0.out x6_2 p246 q246
                 cases e246
                 replace p246 := eq_true p246
                 replace q246 := eq_true q246
                 have p247 : 0 ≤ (x5_1 : Int) := zI (by first | (with_reducible assumption) | assumption)
                 have q247 : x5_1 < (l1.length : Int) := zI (by first | (with_reducible assumption) | assumption)
                 obtain ⟨ad247, A247_0, c247_0, e247, hx247_0, hl247_0, hi247_0⟩ := at_L2 HR1.out x5_1 p247 q247
                 obtain rfl : ad243 = ad247 := (by injection e247)
                 have HR247_0 := zA hi247_0
                 have HC247_0 := zA hl247_0
                 clear hi247_0 hl247_0
                 replace p247 := eq_true p247
                 replace q247 := eq_true q247
                 have p248 : 0 ≤ (x6_2 : Int) := zI (by first | (with_reducible assumption) | assumption)
                 have q248 : x6_2 < ((rd_L2 l1 x5_1).length : Int) := zI (by first | (with_reducible assumption) | assumption)
                 obtain ⟨ad248, e248, hx248_0⟩ := Kd.at_int HR247_0.out x6_2 p248 q248
                 cases e248
                 replace p248 := eq_true p248
                 replace q248 := eq_true q248
                 go_wp2
                 repeat (go_quiet (fail); try go_wp2)
                 go_ret
                 exact ⟨by first | rfl | (simp; done) | (simp [*]; done), by repeat (first | exact Drawn0.refl _ | apply Drawn0.step)⟩
               ·rw [if_neg c13] at H
                exact absurd H (by simp)
              ·rw [if_neg c12] at H
               exact absurd H (by simp)
             ·rw [if_neg c11] at H
              exact absurd H (by simp)
            ·rw [if_neg c10] at H
             have c10b0 := decide_eq_false c10
             clear c10
             have H' := zA H
             clear H
             have p244 : 0 ≤ (x5_1 : Int) := zI (by first | (with_reducible assumption) | assumption)
             have q244 : x5_1 < (l0.length : Int) := zI (by first | (with_reducible assumption) | assumption)
             obtain ⟨ad244, A244_0, c244_0, e244, hx244_0, hl244_0, hi244_0⟩ := at_L2 HR0.out x5_1 p244 q244
             obtain rfl : ad242 = ad244 := (by injection e244)
             have HR244_0 := zA hi244_0
             have HC244_0 := zA hl244_0
             clear hi244_0 hl244_0
             replace p244 := eq_true p244
             replace q244 := eq_true q244
             go_wp2
             repeat (go_quiet (fail); try go_wp2)
             go_roundg k2
             case measure => have := HK1.out; have := HK2.out; omega
             case rel => exact ⟨(wrap64 (x5_1 + 1)), rfl, H', ⟨by have := HK1.out; have := HK2.out; omega⟩, by repeat (first | exact Drawn0.refl _ | apply Drawn0.step)⟩
           ·rw [if_neg c9] at H
            exact absurd H (by simp)
          ·rw [if_neg c8] at H
           exact absurd H (by simp)
       ·rw [if_neg c7] at H
        have c7b0 : (((rd_L2 l0 x5_1).length : Int) == ((rd_L2 l1 x5_1).length : Int)) = false := beq_eq_false_iff_ne.mpr c7
        have c7b1 : (((rd_L2 l0 x5_1).length : Int) != ((rd_L2 l1 x5_1).length : Int)) = true := bne_iff_ne.mpr c7
        have c7b2 : ((rd_L2 l0 x5_1).length == (rd_L2 l1 x5_1).length) = false := by first | simpa using c7 | (simp at c7 ⊢; omega)
        obtain rfl := Option.some.inj H
        have p242 : 0 ≤ (x5_1 : Int) := zI (by first | (with_reducible assumption) | assumption)
        have q242 : x5_1 < (l0.length : Int) := zI (by first | (with_reducible assumption) | assumption)
        obtain ⟨ad242, A242_0, c242_0, e242, hx242_0, hl242_0, hi242_0⟩ := at_L2 HR0.out x5_1 p242 q242
        cases e242
        have HR242_0 := zA hi242_0
        have HC242_0 := zA hl242_0
        clear hi242_0 hl242_0
        replace p242 := eq_true p242
        replace q242 := eq_true q242
        have p243 : 0 ≤ (x5_1 : Int) := zI (by first | (with_reducible assumption) | assumption)
        have q243 : x5_1 < (l1.length : Int) := zI (by first | (with_reducible assumption) | assumption)
        obtain ⟨ad243, A243_0, c243_0, e243, hx243_0, hl243_0, hi243_0⟩ := at_L2 HR1.out x5_1 p243 q243
        cases e243
        have HR243_0 := zA hi243_0
        have HC243_0 := zA hl243_0
        clear hi243_0 hl243_0
        replace p243 := eq_true p243
        replace q243 := eq_true q243
        go_wp2
        repeat (go_quiet (fail); try go_wp2)
        go_ret
        exact ⟨by first | rfl | (simp; done) | (simp [*]; done), by repeat (first | exact Drawn0.refl _ | apply Drawn0.step)⟩
      ·rw [if_neg c6] at H
       exact absurd H (by simp)
     ·rw [if_neg c5] at H
      exact absurd H (by simp)
    ·rw [if_neg c4] at H
     have c4b0 := decide_eq_false c4
     clear c4
     obtain rfl := Option.some.inj H
     go_wp2
     repeat (go_quiet (fail); try go_wp2)
     go_ret
     exact ⟨by first | rfl | (simp; done) | (simp [*]; done), by repeat (first | exact Drawn0.refl _ | apply Drawn0.step)⟩
 ·rw [if_neg c3] at H
  have c3b0 : ((l0.length : Int) == (l1.length : Int)) = false := beq_eq_false_iff_ne.mpr c3
  have c3b1 : ((l0.length : Int) != (l1.length : Int)) = true := bne_iff_ne.mpr c3
  have c3b2 : (l0.length == l1.length) = false := by first | simpa using c3 | (simp at c3 ⊢; omega)
  obtain rfl := Option.some.inj H
  go_enter Tryz.func15, Tryz.ntmps15
  go_wp2
  repeat (go_quiet (fail); try go_wp2)
  go_ret
  exact ⟨by first | rfl | (simp; done) | (simp [*]; done), by repeat (first | exact Drawn0.refl _ | apply Drawn0.step)⟩
theorem spec_l19Lists.l1_ev (a b : List (List Int)) (i : Nat) (h1 : i < a.length) (h2 : i < b.length) (hl : a[i].length = b[i].length) (hx : a[i].length ≤ 4611686018427387904) (hi : a.length ≤ 4611686018427387904) (R : Bool) (hR : Ev (fun k => spec_l19Lists.l0 k a b ((i + 1 : Nat) : Int)) R) : ∀ (d j : Nat), j + d = a[i].length → Ev (fun k => spec_l19Lists.l1 k a b (i : Int) (j : Int)) ((a[i].drop j == b[i].drop j) && R) := by
 have e1 := rdL2_nat a i h1
 have e2 := rdL2_nat b i h2
 intro d
 induction d with
 | zero =>
  intro j hj
  refine Ev.step (fun _ => by rw [spec_l19Lists.l1]) ?_
  rw [e1]
  refine Ev.ip (by omega) (Ev.ip (by omega) (Ev.ng (by omega) ?_))
  rw [wrap_succ i (by omega), List.drop_of_length_le (by omega), List.drop_of_length_le (by omega)]
  exact Ev.eq hR (by simp)
 | succ d ih =>
  intro j hj
  have p1 : j < a[i].length := by omega
  have p2 : j < b[i].length := by omega
  refine Ev.step (fun _ => by rw [spec_l19Lists.l1]) ?_
  rw [e1, e2, rd_nat _ j p1, rd_nat _ j p2, wrap_succ j (by omega)]
  refine Ev.ip (by omega) (Ev.ip (by omega) (Ev.ip (by omega) (Ev.ip (by omega) (Ev.ip (by omega) (Ev.ip (by omega) ?_)))))
  have e : (a[i].drop j == b[i].drop j) = (a[i][j] == b[i][j] && a[i].drop (j + 1) == b[i].drop (j + 1)) := by
   rw [List.drop_eq_getElem_cons p1, List.drop_eq_getElem_cons p2]; rfl
  rw [e]
  by_cases h : a[i][j] = b[i][j]
  ·exact Ev.ip h (Ev.eq (ih (j + 1) (by omega)) (by simp [h]))
  ·exact Ev.ng h (Ev.eq (Ev.now _) (by simp [h]))
theorem spec_l19Lists.ev (a b : List (List Int)) (ha : a.length ≤ 4611686018427387904) (hx : ∀ x ∈ a, x.length ≤ 4611686018427387904) : Ev (fun k => spec_l19Lists.f k a b) (a == b) := by
 unfold spec_l19Lists.f
 by_cases hl : a.length = b.length
 ·refine Ev.ip (by omega) ?_
  have key : ∀ d i : Nat, i + d = a.length → Ev (fun k => spec_l19Lists.l0 k a b (i : Int)) (a.drop i == b.drop i) := by
   intro d
   induction d with
   | zero =>
    intro i hi
    refine Ev.step (fun _ => by rw [spec_l19Lists.l0]) (Ev.ng (by omega) (Ev.eq (Ev.now _) ?_))
    rw [List.drop_of_length_le (by omega), List.drop_of_length_le (by omega)]; rfl
   | succ d ih =>
    intro i hi
    have h1 : i < a.length := by omega
    have h2 : i < b.length := by omega
    have e : (a.drop i == b.drop i) = (a[i] == b[i] && a.drop (i + 1) == b.drop (i + 1)) := by
     rw [List.drop_eq_getElem_cons h1, List.drop_eq_getElem_cons h2]; rfl
    refine Ev.step (fun _ => by rw [spec_l19Lists.l0]) ?_
    rw [rdL2_nat a i h1, rdL2_nat b i h2, e]
    refine Ev.ip (by omega) (Ev.ip (by omega) (Ev.ip (by omega) ?_))
    by_cases hq : a[i].length = b[i].length
    ·exact Ev.ip (by omega) (spec_l19Lists.l1_ev a b i h1 h2 hq (hx _ (List.getElem_mem _)) ha _ (ih (i + 1) (by omega)) a[i].length 0 (by omega))
    ·refine Ev.ng (by omega) (Ev.eq (Ev.now _) ?_)
     rw [show (a[i] == b[i]) = false from beq_eq_false_iff_ne.2 (fun h => hq (by rw [h])), Bool.false_and]
  exact key a.length 0 (Nat.zero_add _)
 ·refine Ev.ng (by omega) (Ev.eq (Ev.now _) ?_)
  symm
  rw [beq_eq_false_iff_ne]
  intro h; exact hl (by rw [h])
end Go.Proofs.YtilimpjcdeeaiaaGreat.G


namespace Go.Proofs.YtilimpjcdeeaiaaGreat.G
open Go.RowKit Go.Proofs.YtilimpjcdeeaiaaGreatW.PrintWords Go.Proofs.YtilimpjcdeeaiaaGreatW.PrintLast Go.Proofs.YtilimpjcdeeaiaaGreatW.PrintMore
attribute [local go_sem] max2_int min2_int max_two min_two max_three min_three max_four min_four   -- for this text's walks alone
def spec_l19Bytes.l0 : Nat → List Int → List Int → Int → Option (Bool)
 | 0, _, _, _ => none
 | k + 1, x0, x1, x5 => if x5 < (x0.length : Int) then (if 0 ≤ x5 then (if x5 < (x1.length : Int) then (if (rd x0 x5) = (rd x1 x5) then (spec_l19Bytes.l0 k x0 x1 (wrap64 (x5 + 1))) else (some false)) else (none)) else (none)) else (some true)
def spec_l19Bytes.f (k : Nat) (l0 : List Int) (l1 : List Int) : Option (Bool) := if (l0.length : Int) = (l1.length : Int) then (spec_l19Bytes.l0 k l0 l1 0) else (some false)
set_option maxHeartbeats 8000000 in
set_option maxRecDepth 100000 in
theorem spec_l19Bytes.calls (k : Nat) (A0 : Option Addr) (c0 : Nat) (l0 : List Int) (A1 : Option Addr) (c1 : Nat) (l1 : List Int) (r : Bool) (w : World) (hr0 : Kd.C (Kd.int .u8) w A0 l0.length l0) (hc0 : l0.length ≤ c0) (hr1 : Kd.C (Kd.int .u8) w A1 l1.length l1) (hc1 : l1.length ≤ c1) (h : spec_l19Bytes.f k l0 l1 = some r) :
  Calls Tryz.prog 16 #[.slice A0 l0.length c0, .slice A1 l1.length c1] w fun e w' => e = .returned (.bool r) ∧ Drawn0 w w' := by
 have HR0 := zA hr0
 have HC0 := zA hc0
 clear hr0 hc0
 have HR1 := zA hr1
 have HC1 := zA hc1
 clear hr1 hc1
 have H : (if (l0.length : Int) = (l1.length : Int) then (spec_l19Bytes.l0 k l0 l1 0) else (some false)) = some r := h
 clear h
 by_cases c3 : (l0.length : Int) = (l1.length : Int)
 rotate_left
 ·rw [if_neg c3] at H
  have c3b0 : ((l0.length : Int) == (l1.length : Int)) = false := beq_eq_false_iff_ne.mpr c3
  have c3b1 : ((l0.length : Int) != (l1.length : Int)) = true := bne_iff_ne.mpr c3
  have c3b2 : (l0.length == l1.length) = false := by first | simpa using c3 | (simp at c3 ⊢; omega)
  obtain rfl := Option.some.inj H
  go_enter Tryz.func16, Tryz.ntmps16
  go_wp2
  repeat (go_quiet (fail); try go_wp2)
  go_ret
  exact ⟨by first | rfl | (simp; done) | (simp [*]; done), by repeat (first | exact Drawn0.refl _ | apply Drawn0.step)⟩
 rw [if_pos c3] at H
 have c3b0 : ((l0.length : Int) == (l1.length : Int)) = true := beq_iff_eq.mpr c3
 have c3b1 : ((l0.length : Int) != (l1.length : Int)) = false := bne_eq_false_iff_eq.mpr c3
 have c3b2 : (l0.length == l1.length) = true := by first | simpa using c3 | (simp at c3 ⊢; omega)
 clear c3
 have H' := zA H
 clear H
 go_enter Tryz.func16, Tryz.ntmps16
 go_wp2
 repeat (go_quiet (fail); try go_wp2)
 go_loopg [5] k (fun kq v5 w' => ∃ (x5_1 : Int), v5 = .int .i64 x5_1 ∧ Aside0 (spec_l19Bytes.l0 kq l0 l1 x5_1 = some r) ∧ Aside0 (kq ≤ k) ∧ Drawn0 w w')
 case atStart => exact ⟨(0), rfl, H', ⟨Nat.le_refl _⟩, by repeat (first | exact Drawn0.refl _ | apply Drawn0.step)⟩
 case round =>
  clear H'
  obtain ⟨x5_1, rfl, HA, HK1, ⟨m1, rfl⟩⟩ := hrel
  cases gk with
  | zero => exact absurd HA.out (by simp [spec_l19Bytes.l0])
  | succ k1 =>
   have H := HA.out
   clear HA
   simp only [spec_l19Bytes.l0] at H
   by_cases c4 : x5_1 < (l0.length : Int)
   rotate_left
   ·rw [if_neg c4] at H
    have c4b0 := decide_eq_false c4
    clear c4
    obtain rfl := Option.some.inj H
    go_wp2
    repeat (go_quiet (fail); try go_wp2)
    go_ret
    exact ⟨by first | rfl | (simp; done) | (simp [*]; done), by repeat (first | exact Drawn0.refl _ | apply Drawn0.step)⟩
   rw [if_pos c4] at H
   have c4b0 := zT c4
   clear c4
   by_cases c5 : 0 ≤ x5_1
   rotate_left
   ·rw [if_neg c5] at H
    exact absurd H (by simp)
   rw [if_pos c5] at H
   have c5b0 := zT c5
   clear c5
   by_cases c6 : x5_1 < (l1.length : Int)
   rotate_left
   ·rw [if_neg c6] at H
    exact absurd H (by simp)
   rw [if_pos c6] at H
   have c6b0 := zT c6
   clear c6
   by_cases c7 : (rd l0 x5_1) = (rd l1 x5_1)
   rotate_left
   ·rw [if_neg c7] at H
    have c7b0 : ((rd l0 x5_1) == (rd l1 x5_1)) = false := beq_eq_false_iff_ne.mpr c7
    have c7b1 : ((rd l0 x5_1) != (rd l1 x5_1)) = true := bne_iff_ne.mpr c7
    obtain rfl := Option.some.inj H
    have p249 : 0 ≤ (x5_1 : Int) := zI (by first | (with_reducible assumption) | assumption)
    have q249 : x5_1 < (l0.length : Int) := zI (by first | (with_reducible assumption) | assumption)
    obtain ⟨ad249, e249, hx249_0⟩ := Kd.at_int HR0.out x5_1 p249 q249
    cases e249
    replace p249 := eq_true p249
    replace q249 := eq_true q249
    have p250 : 0 ≤ (x5_1 : Int) := zI (by first | (with_reducible assumption) | assumption)
    have q250 : x5_1 < (l1.length : Int) := zI (by first | (with_reducible assumption) | assumption)
    obtain ⟨ad250, e250, hx250_0⟩ := Kd.at_int HR1.out x5_1 p250 q250
    cases e250
    replace p250 := eq_true p250
    replace q250 := eq_true q250
    go_wp2
    repeat (go_quiet (fail); try go_wp2)
    go_ret
    exact ⟨by first | rfl | (simp; done) | (simp [*]; done), by repeat (first | exact Drawn0.refl _ | apply Drawn0.step)⟩
   rw [if_pos c7] at H
   have c7b0 : ((rd l0 x5_1) == (rd l1 x5_1)) = true := beq_iff_eq.mpr c7
   have c7b1 : ((rd l0 x5_1) != (rd l1 x5_1)) = false := bne_eq_false_iff_eq.mpr c7
   clear c7
   have H' := zA H
   clear H
   have p249 : 0 ≤ (x5_1 : Int) := zI (by first | (with_reducible assumption) | assumption)
   have q249 : x5_1 < (l0.length : Int) := zI (by first | (with_reducible assumption) | assumption)
   obtain ⟨ad249, e249, hx249_0⟩ := Kd.at_int HR0.out x5_1 p249 q249
   cases e249
   replace p249 := eq_true p249
   replace q249 := eq_true q249
   have p250 : 0 ≤ (x5_1 : Int) := zI (by first | (with_reducible assumption) | assumption)
   have q250 : x5_1 < (l1.length : Int) := zI (by first | (with_reducible assumption) | assumption)
   obtain ⟨ad250, e250, hx250_0⟩ := Kd.at_int HR1.out x5_1 p250 q250
   cases e250
   replace p250 := eq_true p250
   replace q250 := eq_true q250
   go_wp2
   repeat (go_quiet (fail); try go_wp2)
   go_roundg k1
   case measure => have := HK1.out; omega
   case rel => exact ⟨(wrap64 (x5_1 + 1)), rfl, H', ⟨by have := HK1.out; omega⟩, by repeat (first | exact Drawn0.refl _ | apply Drawn0.step)⟩
theorem spec_l19Bytes.ev (a b : List Int) (ha : a.length ≤ 4611686018427387904) : Ev (fun k => spec_l19Bytes.f k a b) (a == b) := by
 unfold spec_l19Bytes.f
 by_cases hl : a.length = b.length
 rotate_left
 ·refine Ev.ng (by omega) (Ev.eq (Ev.now _) ?_)
  symm
  rw [beq_eq_false_iff_ne]
  intro h; exact hl (by rw [h])
 refine Ev.ip (by omega) ?_
 have key : ∀ d i : Nat, a.length - i = d → i ≤ a.length → Ev (fun k => spec_l19Bytes.l0 k a b (i : Int)) (a.drop i == b.drop i) := by
  intro d
  induction d with
  | zero =>
   intro i hd hi
   refine Ev.step (fun _ => by rw [spec_l19Bytes.l0]) ?_
   refine Ev.ng (by omega) (Ev.eq (Ev.now _) ?_)
   rw [List.drop_of_length_le (by omega), List.drop_of_length_le (by omega)]; rfl
  | succ d ih =>
   intro i hd hi
   have h1 : i < a.length := by omega
   have h2 : i < b.length := by omega
   refine Ev.step (fun _ => by rw [spec_l19Bytes.l0]) ?_
   refine Ev.ip (by omega) (Ev.ip (by omega) (Ev.ip (by omega) ?_))
   rw [rd_nat a i h1, rd_nat b i h2, wrap_succ i (by omega)]
   have e : (a.drop i == b.drop i) = (a[i] == b[i] && a.drop (i + 1) == b.drop (i + 1)) := by
    rw [List.drop_eq_getElem_cons h1, List.drop_eq_getElem_cons h2]; rfl
   rw [e]
   by_cases h : a[i] = b[i]
   ·exact Ev.ip h (Ev.eq (ih (i + 1) (by omega) (by omega)) (by simp [h]))
   ·exact Ev.ng h (Ev.eq (Ev.now _) (by simp [h]))
 exact key _ 0 rfl (by omega)
end Go.Proofs.YtilimpjcdeeaiaaGreat.G


namespace Go.Proofs.YtilimpjcdeeaiaaGreat.G
open Go.RowKit Go.Proofs.YtilimpjcdeeaiaaGreatW.PrintWords Go.Proofs.YtilimpjcdeeaiaaGreatW.PrintLast Go.Proofs.YtilimpjcdeeaiaaGreatW.PrintMore
attribute [local go_sem] max2_int min2_int max_two min_two max_three min_three max_four min_four   -- for this text's walks alone
theorem eqA53 (d : Nat) (w : World) (x0 y0 : Int) (x1 y1 : Int) (x2 y2 : Int) (x3 y3 : Int) :
  (Op.equalIn (d + 2) 53 (.agg #[.int .i64 x0, .int .i64 x1, .int .i64 x2, .int .i64 x3]) (.agg #[.int .i64 y0, .int .i64 y1, .int .i64 y2, .int .i64 y3])).run Tryz.prog w = .ok (x0 == y0 && (x1 == y1 && (x2 == y2 && (x3 == y3)))) w := by
 refine eqA_of Tryz.underlying53 (by kernel_rfl) ?_
 refine eqf_cons (by rfl) (by go_simp; rfl) (by go_simp; rfl) (by go_simp) ?_
 refine eqf_cons (by rfl) (by go_simp; rfl) (by go_simp; rfl) (by go_simp) ?_
 refine eqf_cons (by rfl) (by go_simp; rfl) (by go_simp; rfl) (by go_simp) ?_
 exact eqf_last (by rfl) (by go_simp; rfl) (by go_simp; rfl) (by go_simp)
end Go.Proofs.YtilimpjcdeeaiaaGreat.G


namespace Go.Proofs.YtilimpjcdeeaiaaGreat.G
open Go.RowKit Go.Proofs.YtilimpjcdeeaiaaGreatW.PrintWords Go.Proofs.YtilimpjcdeeaiaaGreatW.PrintLast Go.Proofs.YtilimpjcdeeaiaaGreatW.PrintMore
attribute [local go_sem] max2_int min2_int max_two min_two max_three min_three max_four min_four   -- for this text's walks alone
attribute [local go_sem high] eqA53
mutual
def spec_SameStream.j0 : Nat → Bool → Int → Int → Int → Int → List (S53) → List (List Int) → List (List (List Int)) → Int → List (S79) → List Int → Int → Int → Int → Int → List (S53) → List (List Int) → List (List (List Int)) → Int → List (S79) → List Int → Option (Bool)
 | 0, _, _, _, _, _, _, _, _, _, _, _, _, _, _, _, _, _, _, _, _, _ => none
 | k + 1, x67, x252000, x252001, x252002, x252003, x252004, x252005, x252006, x252007, x252008, x252009, x253000, x253001, x253002, x253003, x253004, x253005, x253006, x253007, x253008, x253009 => if x67 = true then (some false) else (spec_SameStream.l0 k 0 x252000 x252001 x252002 x252003 x252004 x252005 x252006 x252007 x252008 x252009 x253000 x253001 x253002 x253003 x253004 x253005 x253006 x253007 x253008 x253009)
def spec_SameStream.l0 : Nat → Int → Int → Int → Int → Int → List (S53) → List (List Int) → List (List (List Int)) → Int → List (S79) → List Int → Int → Int → Int → Int → List (S53) → List (List Int) → List (List (List Int)) → Int → List (S79) → List Int → Option (Bool)
 | 0, _, _, _, _, _, _, _, _, _, _, _, _, _, _, _, _, _, _, _, _, _ => none
 | k + 1, x5, x252000, x252001, x252002, x252003, x252004, x252005, x252006, x252007, x252008, x252009, x253000, x253001, x253002, x253003, x253004, x253005, x253006, x253007, x253008, x253009 => if x5 < (x252004.length : Int) then (if 0 ≤ x5 then (if x5 < (x253004.length : Int) then (if (!(((rd_T53 x252004 x5).f0) == ((rd_T53 x253004 x5).f0)) || (!(((rd_T53 x252004 x5).f1) == ((rd_T53 x253004 x5).f1)) || (!(((rd_T53 x252004 x5).f2) == ((rd_T53 x253004 x5).f2)) || (!(((rd_T53 x252004 x5).f3) == ((rd_T53 x253004 x5).f3)))))) = true then (some false) else (if x5 < (x252006.length : Int) then (if x5 < (x253006.length : Int) then ((spec_l19Lists.f k (rd_L3 x252006 x5) (rd_L3 x253006 x5)).bind fun t261 => (if t261 = true then (spec_SameStream.l0 k (wrap64 (x5 + 1)) x252000 x252001 x252002 x252003 x252004 x252005 x252006 x252007 x252008 x252009 x253000 x253001 x253002 x253003 x253004 x253005 x253006 x253007 x253008 x253009) else (some false))) else (none)) else (none))) else (none)) else (none)) else (some true)
end
def spec_SameStream.f (k : Nat) (a0_0 : Int) (a0_1 : Int) (a0_2 : Int) (a0_3 : Int) (l0_4 : List (S53)) (l0_5 : List (List Int)) (l0_6 : List (List (List Int))) (a0_7 : Int) (l0_8 : List (S79)) (l0_9 : List Int) (a1_0 : Int) (a1_1 : Int) (a1_2 : Int) (a1_3 : Int) (l1_4 : List (S53)) (l1_5 : List (List Int)) (l1_6 : List (List (List Int))) (a1_7 : Int) (l1_8 : List (S79)) (l1_9 : List Int) : Option (Bool) := (spec_StreamOk.f k a0_0 a0_1 a0_2 a0_3 l0_4 l0_5 l0_6 a0_7 l0_8 l0_9).bind fun t253 => (if t253 = true then ((spec_StreamOk.f k a1_0 a1_1 a1_2 a1_3 l1_4 l1_5 l1_6 a1_7 l1_8 l1_9).bind fun t254 => (if t254 = true then (if a0_0 = a1_0 then (if a0_1 = a1_1 then (if a0_2 = a1_2 then (if (l0_4.length : Int) = (l1_4.length : Int) then ((spec_l19Lists.f k l0_5 l1_5).bind fun t255 => (if t255 = true then ((spec_l19Bytes.f k l0_9 l1_9).bind fun t256 => (spec_SameStream.j0 k (!t256) a0_0 a0_1 a0_2 a0_3 l0_4 l0_5 l0_6 a0_7 l0_8 l0_9 a1_0 a1_1 a1_2 a1_3 l1_4 l1_5 l1_6 a1_7 l1_8 l1_9)) else (spec_SameStream.j0 k true a0_0 a0_1 a0_2 a0_3 l0_4 l0_5 l0_6 a0_7 l0_8 l0_9 a1_0 a1_1 a1_2 a1_3 l1_4 l1_5 l1_6 a1_7 l1_8 l1_9))) else (spec_SameStream.j0 k true a0_0 a0_1 a0_2 a0_3 l0_4 l0_5 l0_6 a0_7 l0_8 l0_9 a1_0 a1_1 a1_2 a1_3 l1_4 l1_5 l1_6 a1_7 l1_8 l1_9)) else (spec_SameStream.j0 k true a0_0 a0_1 a0_2 a0_3 l0_4 l0_5 l0_6 a0_7 l0_8 l0_9 a1_0 a1_1 a1_2 a1_3 l1_4 l1_5 l1_6 a1_7 l1_8 l1_9)) else (spec_SameStream.j0 k true a0_0 a0_1 a0_2 a0_3 l0_4 l0_5 l0_6 a0_7 l0_8 l0_9 a1_0 a1_1 a1_2 a1_3 l1_4 l1_5 l1_6 a1_7 l1_8 l1_9)) else (spec_SameStream.j0 k true a0_0 a0_1 a0_2 a0_3 l0_4 l0_5 l0_6 a0_7 l0_8 l0_9 a1_0 a1_1 a1_2 a1_3 l1_4 l1_5 l1_6 a1_7 l1_8 l1_9)) else (spec_SameStream.j0 k true a0_0 a0_1 a0_2 a0_3 l0_4 l0_5 l0_6 a0_7 l0_8 l0_9 a1_0 a1_1 a1_2 a1_3 l1_4 l1_5 l1_6 a1_7 l1_8 l1_9))) else (spec_SameStream.j0 k true a0_0 a0_1 a0_2 a0_3 l0_4 l0_5 l0_6 a0_7 l0_8 l0_9 a1_0 a1_1 a1_2 a1_3 l1_4 l1_5 l1_6 a1_7 l1_8 l1_9))
set_option maxHeartbeats 8000000 in
set_option maxRecDepth 100000 in
theorem spec_SameStream.calls (k : Nat) (a0_0 : Int) (a0_1 : Int) (a0_2 : Int) (a0_3 : Int) (A0_4 : Option Addr) (c0_4 : Nat) (l0_4 : List (S53)) (A0_5 : Option Addr) (c0_5 : Nat) (l0_5 : List (List Int)) (A0_6 : Option Addr) (c0_6 : Nat) (l0_6 : List (List (List Int))) (a0_7 : Int) (A0_8 : Option Addr) (c0_8 : Nat) (l0_8 : List (S79)) (A0_9 : Option Addr) (c0_9 : Nat) (l0_9 : List Int) (a1_0 : Int) (a1_1 : Int) (a1_2 : Int) (a1_3 : Int) (A1_4 : Option Addr) (c1_4 : Nat) (l1_4 : List (S53)) (A1_5 : Option Addr) (c1_5 : Nat) (l1_5 : List (List Int)) (A1_6 : Option Addr) (c1_6 : Nat) (l1_6 : List (List (List Int))) (a1_7 : Int) (A1_8 : Option Addr) (c1_8 : Nat) (l1_8 : List (S79)) (A1_9 : Option Addr) (c1_9 : Nat) (l1_9 : List Int) (r : Bool) (w : World) (hr0_4 : Kd.C k53 w A0_4 l0_4.length l0_4) (hc0_4 : l0_4.length ≤ c0_4) (hr0_5 : Kd.C (Kd.slice 3 (Kd.int .i64)) w A0_5 l0_5.length l0_5) (hc0_5 : l0_5.length ≤ c0_5) (hr0_6 : Kd.C (Kd.slice 66 (Kd.slice 3 (Kd.int .i64))) w A0_6 l0_6.length l0_6) (hc0_6 : l0_6.length ≤ c0_6) (hr0_8 : Kd.C k79 w A0_8 l0_8.length l0_8) (hc0_8 : l0_8.length ≤ c0_8) (hr0_9 : Kd.C (Kd.int .u8) w A0_9 l0_9.length l0_9) (hc0_9 : l0_9.length ≤ c0_9) (hr1_4 : Kd.C k53 w A1_4 l1_4.length l1_4) (hc1_4 : l1_4.length ≤ c1_4) (hr1_5 : Kd.C (Kd.slice 3 (Kd.int .i64)) w A1_5 l1_5.length l1_5) (hc1_5 : l1_5.length ≤ c1_5) (hr1_6 : Kd.C (Kd.slice 66 (Kd.slice 3 (Kd.int .i64))) w A1_6 l1_6.length l1_6) (hc1_6 : l1_6.length ≤ c1_6) (hr1_8 : Kd.C k79 w A1_8 l1_8.length l1_8) (hc1_8 : l1_8.length ≤ c1_8) (hr1_9 : Kd.C (Kd.int .u8) w A1_9 l1_9.length l1_9) (hc1_9 : l1_9.length ≤ c1_9) (h : spec_SameStream.f k a0_0 a0_1 a0_2 a0_3 l0_4 l0_5 l0_6 a0_7 l0_8 l0_9 a1_0 a1_1 a1_2 a1_3 l1_4 l1_5 l1_6 a1_7 l1_8 l1_9 = some r) :
  Calls Tryz.prog 5 #[.agg #[.int .i64 a0_0, .int .i64 a0_1, .int .i64 a0_2, .int .i64 a0_3, .slice A0_4 l0_4.length c0_4, .slice A0_5 l0_5.length c0_5, .slice A0_6 l0_6.length c0_6, .int .i64 a0_7, .slice A0_8 l0_8.length c0_8, .slice A0_9 l0_9.length c0_9], .agg #[.int .i64 a1_0, .int .i64 a1_1, .int .i64 a1_2, .int .i64 a1_3, .slice A1_4 l1_4.length c1_4, .slice A1_5 l1_5.length c1_5, .slice A1_6 l1_6.length c1_6, .int .i64 a1_7, .slice A1_8 l1_8.length c1_8, .slice A1_9 l1_9.length c1_9]] w fun e w' => e = .returned (.bool r) ∧ Below w.heap.size w w' := by
 have hu41 := Tryz.underlying41
 have hu53 := Tryz.underlying53
 have HR0_4 := zA hr0_4
 have HC0_4 := zA hc0_4
 clear hr0_4 hc0_4
 have HR0_5 := zA hr0_5
 have HC0_5 := zA hc0_5
 clear hr0_5 hc0_5
 have HR0_6 := zA hr0_6
 have HC0_6 := zA hc0_6
 clear hr0_6 hc0_6
 have HR0_8 := zA hr0_8
 have HC0_8 := zA hc0_8
 clear hr0_8 hc0_8
 have HR0_9 := zA hr0_9
 have HC0_9 := zA hc0_9
 clear hr0_9 hc0_9
 have HR1_4 := zA hr1_4
 have HC1_4 := zA hc1_4
 clear hr1_4 hc1_4
 have HR1_5 := zA hr1_5
 have HC1_5 := zA hc1_5
 clear hr1_5 hc1_5
 have HR1_6 := zA hr1_6
 have HC1_6 := zA hc1_6
 clear hr1_6 hc1_6
 have HR1_8 := zA hr1_8
 have HC1_8 := zA hc1_8
 clear hr1_8 hc1_8
 have HR1_9 := zA hr1_9
 have HC1_9 := zA hc1_9
 clear hr1_9 hc1_9
 have HB := zA (Below.refl w.heap.size w)
 have H : ((spec_StreamOk.f k a0_0 a0_1 a0_2 a0_3 l0_4 l0_5 l0_6 a0_7 l0_8 l0_9).bind fun t253 => (if t253 = true then ((spec_StreamOk.f k a1_0 a1_1 a1_2 a1_3 l1_4 l1_5 l1_6 a1_7 l1_8 l1_9).bind fun t254 => (if t254 = true then (if a0_0 = a1_0 then (if a0_1 = a1_1 then (if a0_2 = a1_2 then (if (l0_4.length : Int) = (l1_4.length : Int) then ((spec_l19Lists.f k l0_5 l1_5).bind fun t255 => (if t255 = true then ((spec_l19Bytes.f k l0_9 l1_9).bind fun t256 => (spec_SameStream.j0 k (!t256) a0_0 a0_1 a0_2 a0_3 l0_4 l0_5 l0_6 a0_7 l0_8 l0_9 a1_0 a1_1 a1_2 a1_3 l1_4 l1_5 l1_6 a1_7 l1_8 l1_9)) else (spec_SameStream.j0 k true a0_0 a0_1 a0_2 a0_3 l0_4 l0_5 l0_6 a0_7 l0_8 l0_9 a1_0 a1_1 a1_2 a1_3 l1_4 l1_5 l1_6 a1_7 l1_8 l1_9))) else (spec_SameStream.j0 k true a0_0 a0_1 a0_2 a0_3 l0_4 l0_5 l0_6 a0_7 l0_8 l0_9 a1_0 a1_1 a1_2 a1_3 l1_4 l1_5 l1_6 a1_7 l1_8 l1_9)) else (spec_SameStream.j0 k true a0_0 a0_1 a0_2 a0_3 l0_4 l0_5 l0_6 a0_7 l0_8 l0_9 a1_0 a1_1 a1_2 a1_3 l1_4 l1_5 l1_6 a1_7 l1_8 l1_9)) else (spec_SameStream.j0 k true a0_0 a0_1 a0_2 a0_3 l0_4 l0_5 l0_6 a0_7 l0_8 l0_9 a1_0 a1_1 a1_2 a1_3 l1_4 l1_5 l1_6 a1_7 l1_8 l1_9)) else (spec_SameStream.j0 k true a0_0 a0_1 a0_2 a0_3 l0_4 l0_5 l0_6 a0_7 l0_8 l0_9 a1_0 a1_1 a1_2 a1_3 l1_4 l1_5 l1_6 a1_7 l1_8 l1_9)) else (spec_SameStream.j0 k true a0_0 a0_1 a0_2 a0_3 l0_4 l0_5 l0_6 a0_7 l0_8 l0_9 a1_0 a1_1 a1_2 a1_3 l1_4 l1_5 l1_6 a1_7 l1_8 l1_9))) else (spec_SameStream.j0 k true a0_0 a0_1 a0_2 a0_3 l0_4 l0_5 l0_6 a0_7 l0_8 l0_9 a1_0 a1_1 a1_2 a1_3 l1_4 l1_5 l1_6 a1_7 l1_8 l1_9))) = some r := h
 clear h
 have HC3 := zA H
 clear H
 go_enter Tryz.func5, Tryz.ntmps5
 go_upto_region 1 with (first | ((with_reducible refine gate_dst (N := 2) rfl ?_); refine nxX (N := 2) (cs := #[.int .i64 a0_0, .int .i64 a0_1, .int .i64 a0_2, .int .i64 a0_3, .slice A0_4 l0_4.length c0_4, .slice A0_5 l0_5.length c0_5, .slice A0_6 l0_6.length c0_6, .int .i64 a0_7, .slice A0_8 l0_8.length c0_8, .slice A0_9 l0_9.length c0_9]) (t := 41) ?_; intro gb251 hg w4 hbox hb; have BK251 := zA (hbox); have GE251 := nxG HB hg; replace HB := nxH hb HB; clear hb hbox hg) | ((with_reducible refine gate_dst (N := 3) rfl ?_); refine nxX (N := 3) (cs := #[.int .i64 a1_0, .int .i64 a1_1, .int .i64 a1_2, .int .i64 a1_3, .slice A1_4 l1_4.length c1_4, .slice A1_5 l1_5.length c1_5, .slice A1_6 l1_6.length c1_6, .int .i64 a1_7, .slice A1_8 l1_8.length c1_8, .slice A1_9 l1_9.length c1_9]) (t := 41) ?_; intro gb252 hg w5 hbox hb; have BK252 := zA (hbox); have GE252 := nxG HB hg; have NB251_252 := nxL BK251 hg; have NB252_251 := nxK BK251 hg; replace BK251 := nxB hb BK251; replace HB := nxH hb HB; clear hb hbox hg))
 (try simp only [Act.put, List.setIfInBounds_toArray, List.set_cons_zero, List.set_cons_succ])
 go_cut [67] (fun v67 wc => ∃ (kq : Nat) (x67_2 : Bool), v67 = .bool x67_2 ∧ Aside0 (spec_SameStream.j0 kq x67_2 a0_0 a0_1 a0_2 a0_3 l0_4 l0_5 l0_6 a0_7 l0_8 l0_9 a1_0 a1_1 a1_2 a1_3 l1_4 l1_5 l1_6 a1_7 l1_8 l1_9 = some r) ∧ Aside0 (kq ≤ k) ∧ Aside0 (wc.heap[gb251]? = some (.cells #[.int .i64 a0_0, .int .i64 a0_1, .int .i64 a0_2, .int .i64 a0_3, (.slice A0_4 l0_4.length c0_4), (.slice A0_5 l0_5.length c0_5), (.slice A0_6 l0_6.length c0_6), .int .i64 a0_7, (.slice A0_8 l0_8.length c0_8), (.slice A0_9 l0_9.length c0_9)] 41 (0, 0))) ∧ Aside0 (wc.heap[gb252]? = some (.cells #[.int .i64 a1_0, .int .i64 a1_1, .int .i64 a1_2, .int .i64 a1_3, (.slice A1_4 l1_4.length c1_4), (.slice A1_5 l1_5.length c1_5), (.slice A1_6 l1_6.length c1_6), .int .i64 a1_7, (.slice A1_8 l1_8.length c1_8), (.slice A1_9 l1_9.length c1_9)] 41 (0, 0))) ∧ Aside0 (Below w.heap.size w wc))
 case first =>
  have H := HC3.out
  clear HC3
  replace H := Option.bind_eq_some_iff.mp H
  obtain ⟨t253, A60, H⟩ := H
  try dsimp only at H
  have A6 := zA A60
  clear A60
  by_cases c7 : t253 = true
  ·subst c7
   rw [if_pos rfl] at H
   replace H := Option.bind_eq_some_iff.mp H
   obtain ⟨t254, A80, H⟩ := H
   try dsimp only at H
   have A8 := zA A80
   clear A80
   by_cases c9 : t254 = true
   ·subst c9
    rw [if_pos rfl] at H
    by_cases c10 : a0_0 = a1_0
    ·rw [if_pos c10] at H
     have c10b0 : (a0_0 == a1_0) = true := beq_iff_eq.mpr c10
     have c10b1 : (a0_0 != a1_0) = false := bne_eq_false_iff_eq.mpr c10
     clear c10
     (first | rw [c10b0] | rw [c10b1] | (simp only [i64_w, i32_w]; first | rw [c10b0] | rw [c10b1]) | skip)
     by_cases c11 : a0_1 = a1_1
     ·rw [if_pos c11] at H
      have c11b0 : (a0_1 == a1_1) = true := beq_iff_eq.mpr c11
      have c11b1 : (a0_1 != a1_1) = false := bne_eq_false_iff_eq.mpr c11
      clear c11
      by_cases c12 : a0_2 = a1_2
      ·rw [if_pos c12] at H
       have c12b0 : (a0_2 == a1_2) = true := beq_iff_eq.mpr c12
       have c12b1 : (a0_2 != a1_2) = false := bne_eq_false_iff_eq.mpr c12
       clear c12
       by_cases c13 : (l0_4.length : Int) = (l1_4.length : Int)
       ·rw [if_pos c13] at H
        have c13b0 : ((l0_4.length : Int) == (l1_4.length : Int)) = true := beq_iff_eq.mpr c13
        have c13b1 : ((l0_4.length : Int) != (l1_4.length : Int)) = false := bne_eq_false_iff_eq.mpr c13
        have c13b2 : (l0_4.length == l1_4.length) = true := by first | simpa using c13 | (simp at c13 ⊢; omega)
        clear c13
        replace H := Option.bind_eq_some_iff.mp H
        obtain ⟨t255, A140, H⟩ := H
        try dsimp only at H
        have A14 := zA A140
        clear A140
        by_cases c15 : t255 = true
        ·subst c15
         rw [if_pos rfl] at H
         replace H := Option.bind_eq_some_iff.mp H
         obtain ⟨t256, A160, H⟩ := H
         try dsimp only at H
         have A16 := zA A160
         clear A160
         have H' := zA H
         clear H
         have hnb17 := NB251_252.out
         have hnc17 := NB252_251.out
         obtain ⟨hcz18_0, hcz18_1, hcz18_2, hcz18_3, hcz18_4, hcz18_5, hcz18_6, hcz18_7, hcz18_8, hcz18_9⟩ := cz10 BK251
         go_wp2_with (first | (go_at_call 14; (with_reducible refine (spec_StreamOk.calls k a0_0 a0_1 a0_2 a0_3 _ _ l0_4 _ _ l0_5 _ _ l0_6 a0_7 _ _ l0_8 _ _ l0_9 true _ ?side1 ?side2 ?side3 ?side4 ?side5 ?side6 ?side7 ?side8 ?side9 ?side10 A6.out).mono ?_); (case side1 => exact nxC HR0_4 HB); (case side2 => exact HC0_4.out); (case side3 => exact nxC HR0_5 HB); (case side4 => exact HC0_5.out); (case side5 => exact nxC HR0_6 HB); (case side6 => exact HC0_6.out); (case side7 => exact nxC HR0_8 HB); (case side8 => exact HC0_8.out); (case side9 => exact nxC HR0_9 HB); (case side10 => exact HC0_9.out); rintro e w19 ⟨rfl, hb⟩; replace BK251 := nxB hb BK251; replace BK252 := nxB hb BK252; replace HB := nxH hb HB; (try clear hb); (try clear hb2); (try clear hk); (try clear hi); obtain ⟨hcz20_0, hcz20_1, hcz20_2, hcz20_3, hcz20_4, hcz20_5, hcz20_6, hcz20_7, hcz20_8, hcz20_9⟩ := cz10 BK252) | (go_at_call 14; (with_reducible refine (spec_StreamOk.calls k a1_0 a1_1 a1_2 a1_3 _ _ l1_4 _ _ l1_5 _ _ l1_6 a1_7 _ _ l1_8 _ _ l1_9 true _ ?side1 ?side2 ?side3 ?side4 ?side5 ?side6 ?side7 ?side8 ?side9 ?side10 A8.out).mono ?_); (case side1 => exact nxC HR1_4 HB); (case side2 => exact HC1_4.out); (case side3 => exact nxC HR1_5 HB); (case side4 => exact HC1_5.out); (case side5 => exact nxC HR1_6 HB); (case side6 => exact HC1_6.out); (case side7 => exact nxC HR1_8 HB); (case side8 => exact HC1_8.out); (case side9 => exact nxC HR1_9 HB); (case side10 => exact HC1_9.out); rintro e w21 ⟨rfl, hb⟩; replace BK251 := nxB hb BK251; replace BK252 := nxB hb BK252; replace HB := nxH hb HB; (try clear hb); (try clear hb2); (try clear hk); (try clear hi); obtain ⟨hcz22_0, hcz22_1, hcz22_2, hcz22_3, hcz22_4, hcz22_5, hcz22_6, hcz22_7, hcz22_8, hcz22_9⟩ := cz10 BK251; obtain ⟨hcz23_0, hcz23_1, hcz23_2, hcz23_3, hcz23_4, hcz23_5, hcz23_6, hcz23_7, hcz23_8, hcz23_9⟩ := cz10 BK252) | (go_at_call 15; (with_reducible refine (spec_l19Lists.calls k _ _ l0_5 _ _ l1_5 true _ ?side1 ?side2 ?side3 ?side4 A14.out).mono ?_); (case side1 => exact nxC HR0_5 HB); (case side2 => exact HC0_5.out); (case side3 => exact nxC HR1_5 HB); (case side4 => exact HC1_5.out); rintro e w' ⟨rfl, ⟨nd, rfl⟩⟩; (try first | exact ⟨rfl, _, World.drewN_drewN _ _ _⟩ | exact ⟨rfl, _, Eq.trans (World.drewN_drewN _ _ _) (congrArg (World.drewN _) (Nat.add_assoc _ _ _))⟩)) | (go_at_call 16; (with_reducible refine (spec_l19Bytes.calls k _ _ l0_9 _ _ l1_9 t256 _ ?side1 ?side2 ?side3 ?side4 A16.out).mono ?_); (case side1 => repeat (first | exact (Kd.C_below HR0_9.out (by repeat (first | (with_reducible first | exact HB.out | apply zC | apply zB | apply zF | refine zE ?_ GE251.out | refine zE ?_ GE252.out) | exact HB.out))) | (with_reducible refine yH ?_ _) | (with_reducible refine yF ?_ _) | (with_reducible refine yG ?_))); (case side2 => exact HC0_9.out); (case side3 => repeat (first | exact (Kd.C_below HR1_9.out (by repeat (first | (with_reducible first | exact HB.out | apply zC | apply zB | apply zF | refine zE ?_ GE251.out | refine zE ?_ GE252.out) | exact HB.out))) | (with_reducible refine yH ?_ _) | (with_reducible refine yF ?_ _) | (with_reducible refine yG ?_))); (case side4 => exact HC1_9.out); rintro e w' ⟨rfl, ⟨nd, rfl⟩⟩; (try first | exact ⟨rfl, _, World.drewN_drewN _ _ _⟩ | exact ⟨rfl, _, Eq.trans (World.drewN_drewN _ _ _) (congrArg (World.drewN _) (Nat.add_assoc _ _ _))⟩)))
         go_meet
         case rel => exact ⟨_, (!t256), rfl, H', ⟨Nat.le_refl _⟩, ⟨BK251.out⟩, ⟨BK252.out⟩, ⟨nxD HB⟩⟩
        ·replace c15 := Bool.eq_false_iff.mpr c15
         subst c15
         rw [if_neg (show ¬ (false = true) by decide)] at H
         have H' := zA H
         clear H
         have hnb24 := NB251_252.out
         have hnc24 := NB252_251.out
         obtain ⟨hcz25_0, hcz25_1, hcz25_2, hcz25_3, hcz25_4, hcz25_5, hcz25_6, hcz25_7, hcz25_8, hcz25_9⟩ := cz10 BK251
         go_wp2_with (first | (go_at_call 14; (with_reducible refine (spec_StreamOk.calls k a0_0 a0_1 a0_2 a0_3 _ _ l0_4 _ _ l0_5 _ _ l0_6 a0_7 _ _ l0_8 _ _ l0_9 true _ ?side1 ?side2 ?side3 ?side4 ?side5 ?side6 ?side7 ?side8 ?side9 ?side10 A6.out).mono ?_); (case side1 => exact nxC HR0_4 HB); (case side2 => exact HC0_4.out); (case side3 => exact nxC HR0_5 HB); (case side4 => exact HC0_5.out); (case side5 => exact nxC HR0_6 HB); (case side6 => exact HC0_6.out); (case side7 => exact nxC HR0_8 HB); (case side8 => exact HC0_8.out); (case side9 => exact nxC HR0_9 HB); (case side10 => exact HC0_9.out); rintro e w26 ⟨rfl, hb⟩; replace BK251 := nxB hb BK251; replace BK252 := nxB hb BK252; replace HB := nxH hb HB; (try clear hb); (try clear hb2); (try clear hk); (try clear hi); obtain ⟨hcz27_0, hcz27_1, hcz27_2, hcz27_3, hcz27_4, hcz27_5, hcz27_6, hcz27_7, hcz27_8, hcz27_9⟩ := cz10 BK252) | (go_at_call 14; (with_reducible refine (spec_StreamOk.calls k a1_0 a1_1 a1_2 a1_3 _ _ l1_4 _ _ l1_5 _ _ l1_6 a1_7 _ _ l1_8 _ _ l1_9 true _ ?side1 ?side2 ?side3 ?side4 ?side5 ?side6 ?side7 ?side8 ?side9 ?side10 A8.out).mono ?_); (case side1 => exact nxC HR1_4 HB); (case side2 => exact HC1_4.out); (case side3 => exact nxC HR1_5 HB); (case side4 => exact HC1_5.out); (case side5 => exact nxC HR1_6 HB); (case side6 => exact HC1_6.out); (case side7 => exact nxC HR1_8 HB); (case side8 => exact HC1_8.out); (case side9 => exact nxC HR1_9 HB); (case side10 => exact HC1_9.out); rintro e w28 ⟨rfl, hb⟩; replace BK251 := nxB hb BK251; replace BK252 := nxB hb BK252; replace HB := nxH hb HB; (try clear hb); (try clear hb2); (try clear hk); (try clear hi); obtain ⟨hcz29_0, hcz29_1, hcz29_2, hcz29_3, hcz29_4, hcz29_5, hcz29_6, hcz29_7, hcz29_8, hcz29_9⟩ := cz10 BK251; obtain ⟨hcz30_0, hcz30_1, hcz30_2, hcz30_3, hcz30_4, hcz30_5, hcz30_6, hcz30_7, hcz30_8, hcz30_9⟩ := cz10 BK252) | (go_at_call 15; (with_reducible refine (spec_l19Lists.calls k _ _ l0_5 _ _ l1_5 false _ ?side1 ?side2 ?side3 ?side4 A14.out).mono ?_); (case side1 => exact nxC HR0_5 HB); (case side2 => exact HC0_5.out); (case side3 => exact nxC HR1_5 HB); (case side4 => exact HC1_5.out); rintro e w' ⟨rfl, ⟨nd, rfl⟩⟩; (try first | exact ⟨rfl, _, World.drewN_drewN _ _ _⟩ | exact ⟨rfl, _, Eq.trans (World.drewN_drewN _ _ _) (congrArg (World.drewN _) (Nat.add_assoc _ _ _))⟩)))
         go_meet
         case rel => exact ⟨_, (true), rfl, H', ⟨Nat.le_refl _⟩, ⟨BK251.out⟩, ⟨BK252.out⟩, ⟨nxD HB⟩⟩
       ·rw [if_neg c13] at H
        have c13b0 : ((l0_4.length : Int) == (l1_4.length : Int)) = false := beq_eq_false_iff_ne.mpr c13
        have c13b1 : ((l0_4.length : Int) != (l1_4.length : Int)) = true := bne_iff_ne.mpr c13
        have c13b2 : (l0_4.length == l1_4.length) = false := by first | simpa using c13 | (simp at c13 ⊢; omega)
        have H' := zA H
        clear H
        have hnb31 := NB251_252.out
        have hnc31 := NB252_251.out
        obtain ⟨hcz32_0, hcz32_1, hcz32_2, hcz32_3, hcz32_4, hcz32_5, hcz32_6, hcz32_7, hcz32_8, hcz32_9⟩ := cz10 BK251
        go_wp2_with (first | (go_at_call 14; (with_reducible refine (spec_StreamOk.calls k a0_0 a0_1 a0_2 a0_3 _ _ l0_4 _ _ l0_5 _ _ l0_6 a0_7 _ _ l0_8 _ _ l0_9 true _ ?side1 ?side2 ?side3 ?side4 ?side5 ?side6 ?side7 ?side8 ?side9 ?side10 A6.out).mono ?_); (case side1 => exact nxC HR0_4 HB); (case side2 => exact HC0_4.out); (case side3 => exact nxC HR0_5 HB); (case side4 => exact HC0_5.out); (case side5 => exact nxC HR0_6 HB); (case side6 => exact HC0_6.out); (case side7 => exact nxC HR0_8 HB); (case side8 => exact HC0_8.out); (case side9 => exact nxC HR0_9 HB); (case side10 => exact HC0_9.out); rintro e w33 ⟨rfl, hb⟩; replace BK251 := nxB hb BK251; replace BK252 := nxB hb BK252; replace HB := nxH hb HB; (try clear hb); (try clear hb2); (try clear hk); (try clear hi); obtain ⟨hcz34_0, hcz34_1, hcz34_2, hcz34_3, hcz34_4, hcz34_5, hcz34_6, hcz34_7, hcz34_8, hcz34_9⟩ := cz10 BK252) | (go_at_call 14; (with_reducible refine (spec_StreamOk.calls k a1_0 a1_1 a1_2 a1_3 _ _ l1_4 _ _ l1_5 _ _ l1_6 a1_7 _ _ l1_8 _ _ l1_9 true _ ?side1 ?side2 ?side3 ?side4 ?side5 ?side6 ?side7 ?side8 ?side9 ?side10 A8.out).mono ?_); (case side1 => exact nxC HR1_4 HB); (case side2 => exact HC1_4.out); (case side3 => exact nxC HR1_5 HB); (case side4 => exact HC1_5.out); (case side5 => exact nxC HR1_6 HB); (case side6 => exact HC1_6.out); (case side7 => exact nxC HR1_8 HB); (case side8 => exact HC1_8.out); (case side9 => exact nxC HR1_9 HB); (case side10 => exact HC1_9.out); rintro e w35 ⟨rfl, hb⟩; replace BK251 := nxB hb BK251; replace BK252 := nxB hb BK252; replace HB := nxH hb HB; (try clear hb); (try clear hb2); (try clear hk); (try clear hi); obtain ⟨hcz36_0, hcz36_1, hcz36_2, hcz36_3, hcz36_4, hcz36_5, hcz36_6, hcz36_7, hcz36_8, hcz36_9⟩ := cz10 BK251; obtain ⟨hcz37_0, hcz37_1, hcz37_2, hcz37_3, hcz37_4, hcz37_5, hcz37_6, hcz37_7, hcz37_8, hcz37_9⟩ := cz10 BK252))
        go_meet
        case rel => exact ⟨_, (true), rfl, H', ⟨Nat.le_refl _⟩, ⟨BK251.out⟩, ⟨BK252.out⟩, ⟨nxD HB⟩⟩
      ·rw [if_neg c12] at H
       have c12b0 : (a0_2 == a1_2) = false := beq_eq_false_iff_ne.mpr c12
       have c12b1 : (a0_2 != a1_2) = true := bne_iff_ne.mpr c12
       have H' := zA H
       clear H
       have hnb38 := NB251_252.out
       have hnc38 := NB252_251.out
       obtain ⟨hcz39_0, hcz39_1, hcz39_2, hcz39_3, hcz39_4, hcz39_5, hcz39_6, hcz39_7, hcz39_8, hcz39_9⟩ := cz10 BK251
       go_wp2_with (first | (go_at_call 14; (with_reducible refine (spec_StreamOk.calls k a0_0 a0_1 a0_2 a0_3 _ _ l0_4 _ _ l0_5 _ _ l0_6 a0_7 _ _ l0_8 _ _ l0_9 true _ ?side1 ?side2 ?side3 ?side4 ?side5 ?side6 ?side7 ?side8 ?side9 ?side10 A6.out).mono ?_); (case side1 => exact nxC HR0_4 HB); (case side2 => exact HC0_4.out); (case side3 => exact nxC HR0_5 HB); (case side4 => exact HC0_5.out); (case side5 => exact nxC HR0_6 HB); (case side6 => exact HC0_6.out); (case side7 => exact nxC HR0_8 HB); (case side8 => exact HC0_8.out); (case side9 => exact nxC HR0_9 HB); (case side10 => exact HC0_9.out); rintro e w40 ⟨rfl, hb⟩; replace BK251 := nxB hb BK251; replace BK252 := nxB hb BK252; replace HB := nxH hb HB; (try clear hb); (try clear hb2); (try clear hk); (try clear hi); obtain ⟨hcz41_0, hcz41_1, hcz41_2, hcz41_3, hcz41_4, hcz41_5, hcz41_6, hcz41_7, hcz41_8, hcz41_9⟩ := cz10 BK252) | (go_at_call 14; (with_reducible refine (spec_StreamOk.calls k a1_0 a1_1 a1_2 a1_3 _ _ l1_4 _ _ l1_5 _ _ l1_6 a1_7 _ _ l1_8 _ _ l1_9 true _ ?side1 ?side2 ?side3 ?side4 ?side5 ?side6 ?side7 ?side8 ?side9 ?side10 A8.out).mono ?_); (case side1 => exact nxC HR1_4 HB); (case side2 => exact HC1_4.out); (case side3 => exact nxC HR1_5 HB); (case side4 => exact HC1_5.out); (case side5 => exact nxC HR1_6 HB); (case side6 => exact HC1_6.out); (case side7 => exact nxC HR1_8 HB); (case side8 => exact HC1_8.out); (case side9 => exact nxC HR1_9 HB); (case side10 => exact HC1_9.out); rintro e w42 ⟨rfl, hb⟩; replace BK251 := nxB hb BK251; replace BK252 := nxB hb BK252; replace HB := nxH hb HB; (try clear hb); (try clear hb2); (try clear hk); (try clear hi); obtain ⟨hcz43_0, hcz43_1, hcz43_2, hcz43_3, hcz43_4, hcz43_5, hcz43_6, hcz43_7, hcz43_8, hcz43_9⟩ := cz10 BK251; obtain ⟨hcz44_0, hcz44_1, hcz44_2, hcz44_3, hcz44_4, hcz44_5, hcz44_6, hcz44_7, hcz44_8, hcz44_9⟩ := cz10 BK252))
       go_meet
       case rel => exact ⟨_, (true), rfl, H', ⟨Nat.le_refl _⟩, ⟨BK251.out⟩, ⟨BK252.out⟩, ⟨nxD HB⟩⟩
     ·rw [if_neg c11] at H
      have c11b0 : (a0_1 == a1_1) = false := beq_eq_false_iff_ne.mpr c11
      have c11b1 : (a0_1 != a1_1) = true := bne_iff_ne.mpr c11
      have H' := zA H
      clear H
      have hnb45 := NB251_252.out
      have hnc45 := NB252_251.out
      obtain ⟨hcz46_0, hcz46_1, hcz46_2, hcz46_3, hcz46_4, hcz46_5, hcz46_6, hcz46_7, hcz46_8, hcz46_9⟩ := cz10 BK251
      go_wp2_with (first | (go_at_call 14; (with_reducible refine (spec_StreamOk.calls k a0_0 a0_1 a0_2 a0_3 _ _ l0_4 _ _ l0_5 _ _ l0_6 a0_7 _ _ l0_8 _ _ l0_9 true _ ?side1 ?side2 ?side3 ?side4 ?side5 ?side6 ?side7 ?side8 ?side9 ?side10 A6.out).mono ?_); (case side1 => exact nxC HR0_4 HB); (case side2 => exact HC0_4.out); (case side3 => exact nxC HR0_5 HB); (case side4 => exact HC0_5.out); (case side5 => exact nxC HR0_6 HB); (case side6 => exact HC0_6.out); (case side7 => exact nxC HR0_8 HB); (case side8 => exact HC0_8.out); (case side9 => exact nxC HR0_9 HB); (case side10 => exact HC0_9.out); rintro e w47 ⟨rfl, hb⟩; replace BK251 := nxB hb BK251; replace BK252 := nxB hb BK252; replace HB := nxH hb HB; (try clear hb); (try clear hb2); (try clear hk); (try clear hi); obtain ⟨hcz48_0, hcz48_1, hcz48_2, hcz48_3, hcz48_4, hcz48_5, hcz48_6, hcz48_7, hcz48_8, hcz48_9⟩ := cz10 BK252) | (go_at_call 14; (with_reducible refine (spec_StreamOk.calls k a1_0 a1_1 a1_2 a1_3 _ _ l1_4 _ _ l1_5 _ _ l1_6 a1_7 _ _ l1_8 _ _ l1_9 true _ ?side1 ?side2 ?side3 ?side4 ?side5 ?side6 ?side7 ?side8 ?side9 ?side10 A8.out).mono ?_); (case side1 => exact nxC HR1_4 HB); (case side2 => exact HC1_4.out); (case side3 => exact nxC HR1_5 HB); (case side4 => exact HC1_5.out); (case side5 => exact nxC HR1_6 HB); (case side6 => exact HC1_6.out); (case side7 => exact nxC HR1_8 HB); (case side8 => exact HC1_8.out); (case side9 => exact nxC HR1_9 HB); (case side10 => exact HC1_9.out); rintro e w49 ⟨rfl, hb⟩; replace BK251 := nxB hb BK251; replace BK252 := nxB hb BK252; replace HB := nxH hb HB; (try clear hb); (try clear hb2); (try clear hk); (try clear hi); obtain ⟨hcz50_0, hcz50_1, hcz50_2, hcz50_3, hcz50_4, hcz50_5, hcz50_6, hcz50_7, hcz50_8, hcz50_9⟩ := cz10 BK251; obtain ⟨hcz51_0, hcz51_1, hcz51_2, hcz51_3, hcz51_4, hcz51_5, hcz51_6, hcz51_7, hcz51_8, hcz51_9⟩ := cz10 BK252))
      go_meet
      case rel => exact ⟨_, (true), rfl, H', ⟨Nat.le_refl _⟩, ⟨BK251.out⟩, ⟨BK252.out⟩, ⟨nxD HB⟩⟩
    ·rw [if_neg c10] at H
     have c10b0 : (a0_0 == a1_0) = false := beq_eq_false_iff_ne.mpr c10
     have c10b1 : (a0_0 != a1_0) = true := bne_iff_ne.mpr c10
     (first | rw [c10b0] | rw [c10b1] | (simp only [i64_w, i32_w]; first | rw [c10b0] | rw [c10b1]) | skip)
     have H' := zA H
     clear H
     have hnb52 := NB251_252.out
     have hnc52 := NB252_251.out
     obtain ⟨hcz53_0, hcz53_1, hcz53_2, hcz53_3, hcz53_4, hcz53_5, hcz53_6, hcz53_7, hcz53_8, hcz53_9⟩ := cz10 BK251
     go_wp2_with (first | (go_at_call 14; (with_reducible refine (spec_StreamOk.calls k a0_0 a0_1 a0_2 a0_3 _ _ l0_4 _ _ l0_5 _ _ l0_6 a0_7 _ _ l0_8 _ _ l0_9 true _ ?side1 ?side2 ?side3 ?side4 ?side5 ?side6 ?side7 ?side8 ?side9 ?side10 A6.out).mono ?_); (case side1 => exact nxC HR0_4 HB); (case side2 => exact HC0_4.out); (case side3 => exact nxC HR0_5 HB); (case side4 => exact HC0_5.out); (case side5 => exact nxC HR0_6 HB); (case side6 => exact HC0_6.out); (case side7 => exact nxC HR0_8 HB); (case side8 => exact HC0_8.out); (case side9 => exact nxC HR0_9 HB); (case side10 => exact HC0_9.out); rintro e w54 ⟨rfl, hb⟩; replace BK251 := nxB hb BK251; replace BK252 := nxB hb BK252; replace HB := nxH hb HB; (try clear hb); (try clear hb2); (try clear hk); (try clear hi); obtain ⟨hcz55_0, hcz55_1, hcz55_2, hcz55_3, hcz55_4, hcz55_5, hcz55_6, hcz55_7, hcz55_8, hcz55_9⟩ := cz10 BK252) | (go_at_call 14; (with_reducible refine (spec_StreamOk.calls k a1_0 a1_1 a1_2 a1_3 _ _ l1_4 _ _ l1_5 _ _ l1_6 a1_7 _ _ l1_8 _ _ l1_9 true _ ?side1 ?side2 ?side3 ?side4 ?side5 ?side6 ?side7 ?side8 ?side9 ?side10 A8.out).mono ?_); (case side1 => exact nxC HR1_4 HB); (case side2 => exact HC1_4.out); (case side3 => exact nxC HR1_5 HB); (case side4 => exact HC1_5.out); (case side5 => exact nxC HR1_6 HB); (case side6 => exact HC1_6.out); (case side7 => exact nxC HR1_8 HB); (case side8 => exact HC1_8.out); (case side9 => exact nxC HR1_9 HB); (case side10 => exact HC1_9.out); rintro e w56 ⟨rfl, hb⟩; replace BK251 := nxB hb BK251; replace BK252 := nxB hb BK252; replace HB := nxH hb HB; (try clear hb); (try clear hb2); (try clear hk); (try clear hi); obtain ⟨hcz57_0, hcz57_1, hcz57_2, hcz57_3, hcz57_4, hcz57_5, hcz57_6, hcz57_7, hcz57_8, hcz57_9⟩ := cz10 BK251; obtain ⟨hcz58_0, hcz58_1, hcz58_2, hcz58_3, hcz58_4, hcz58_5, hcz58_6, hcz58_7, hcz58_8, hcz58_9⟩ := cz10 BK252))
     go_meet
     case rel => exact ⟨_, (true), rfl, H', ⟨Nat.le_refl _⟩, ⟨BK251.out⟩, ⟨BK252.out⟩, ⟨nxD HB⟩⟩
   ·replace c9 := Bool.eq_false_iff.mpr c9
    subst c9
    rw [if_neg (show ¬ (false = true) by decide)] at H
    have H' := zA H
    clear H
    have hnb59 := NB251_252.out
    have hnc59 := NB252_251.out
    obtain ⟨hcz60_0, hcz60_1, hcz60_2, hcz60_3, hcz60_4, hcz60_5, hcz60_6, hcz60_7, hcz60_8, hcz60_9⟩ := cz10 BK251
    go_wp2_with (first | (go_at_call 14; (with_reducible refine (spec_StreamOk.calls k a0_0 a0_1 a0_2 a0_3 _ _ l0_4 _ _ l0_5 _ _ l0_6 a0_7 _ _ l0_8 _ _ l0_9 true _ ?side1 ?side2 ?side3 ?side4 ?side5 ?side6 ?side7 ?side8 ?side9 ?side10 A6.out).mono ?_); (case side1 => exact nxC HR0_4 HB); (case side2 => exact HC0_4.out); (case side3 => exact nxC HR0_5 HB); (case side4 => exact HC0_5.out); (case side5 => exact nxC HR0_6 HB); (case side6 => exact HC0_6.out); (case side7 => exact nxC HR0_8 HB); (case side8 => exact HC0_8.out); (case side9 => exact nxC HR0_9 HB); (case side10 => exact HC0_9.out); rintro e w61 ⟨rfl, hb⟩; replace BK251 := nxB hb BK251; replace BK252 := nxB hb BK252; replace HB := nxH hb HB; (try clear hb); (try clear hb2); (try clear hk); (try clear hi); obtain ⟨hcz62_0, hcz62_1, hcz62_2, hcz62_3, hcz62_4, hcz62_5, hcz62_6, hcz62_7, hcz62_8, hcz62_9⟩ := cz10 BK252) | (go_at_call 14; (with_reducible refine (spec_StreamOk.calls k a1_0 a1_1 a1_2 a1_3 _ _ l1_4 _ _ l1_5 _ _ l1_6 a1_7 _ _ l1_8 _ _ l1_9 false _ ?side1 ?side2 ?side3 ?side4 ?side5 ?side6 ?side7 ?side8 ?side9 ?side10 A8.out).mono ?_); (case side1 => exact nxC HR1_4 HB); (case side2 => exact HC1_4.out); (case side3 => exact nxC HR1_5 HB); (case side4 => exact HC1_5.out); (case side5 => exact nxC HR1_6 HB); (case side6 => exact HC1_6.out); (case side7 => exact nxC HR1_8 HB); (case side8 => exact HC1_8.out); (case side9 => exact nxC HR1_9 HB); (case side10 => exact HC1_9.out); rintro e w63 ⟨rfl, hb⟩; replace BK251 := nxB hb BK251; replace BK252 := nxB hb BK252; replace HB := nxH hb HB; (try clear hb); (try clear hb2); (try clear hk); (try clear hi)))
    go_meet
    case rel => exact ⟨_, (true), rfl, H', ⟨Nat.le_refl _⟩, ⟨BK251.out⟩, ⟨BK252.out⟩, ⟨nxD HB⟩⟩
  ·replace c7 := Bool.eq_false_iff.mpr c7
   subst c7
   rw [if_neg (show ¬ (false = true) by decide)] at H
   have H' := zA H
   clear H
   have hnb64 := NB251_252.out
   have hnc64 := NB252_251.out
   obtain ⟨hcz65_0, hcz65_1, hcz65_2, hcz65_3, hcz65_4, hcz65_5, hcz65_6, hcz65_7, hcz65_8, hcz65_9⟩ := cz10 BK251
   go_wp2_with (first | (go_at_call 14; (with_reducible refine (spec_StreamOk.calls k a0_0 a0_1 a0_2 a0_3 _ _ l0_4 _ _ l0_5 _ _ l0_6 a0_7 _ _ l0_8 _ _ l0_9 false _ ?side1 ?side2 ?side3 ?side4 ?side5 ?side6 ?side7 ?side8 ?side9 ?side10 A6.out).mono ?_); (case side1 => exact nxC HR0_4 HB); (case side2 => exact HC0_4.out); (case side3 => exact nxC HR0_5 HB); (case side4 => exact HC0_5.out); (case side5 => exact nxC HR0_6 HB); (case side6 => exact HC0_6.out); (case side7 => exact nxC HR0_8 HB); (case side8 => exact HC0_8.out); (case side9 => exact nxC HR0_9 HB); (case side10 => exact HC0_9.out); rintro e w66 ⟨rfl, hb⟩; replace BK251 := nxB hb BK251; replace BK252 := nxB hb BK252; replace HB := nxH hb HB; (try clear hb); (try clear hb2); (try clear hk); (try clear hi)))
   go_meet
   case rel => exact ⟨_, (true), rfl, H', ⟨Nat.le_refl _⟩, ⟨BK251.out⟩, ⟨BK252.out⟩, ⟨nxD HB⟩⟩
 case rest =>
  clear HC3
  obtain ⟨kq, x67_2, rfl, HA, HJ2, BK251, BK252, HB⟩ := hcut
  cases kq with
  | zero => exact absurd HA.out (by simp [spec_SameStream.j0])
  | succ kj2 =>
   have H := HA.out
   clear HA
   simp only [spec_SameStream.j0] at H
   by_cases c67 : x67_2 = true
   ·subst c67
    rw [if_pos rfl] at H
    obtain rfl := Option.some.inj H
    go_wp2
    repeat (go_quiet (fail); try go_wp2)
    go_ret
    exact ⟨rfl, nxD HB⟩
   ·replace c67 := Bool.eq_false_iff.mpr c67
    subst c67
    rw [if_neg (show ¬ (false = true) by decide)] at H
    have H' := zA H
    clear H
    go_wp2
    repeat (go_quiet (fail); try go_wp2)
    go_loopg [5] kj2 (fun kq v5 w' => ∃ (x5_2 : Int), v5 = .int .i64 x5_2 ∧ Aside0 (spec_SameStream.l0 kq x5_2 a0_0 a0_1 a0_2 a0_3 l0_4 l0_5 l0_6 a0_7 l0_8 l0_9 a1_0 a1_1 a1_2 a1_3 l1_4 l1_5 l1_6 a1_7 l1_8 l1_9 = some r) ∧ Aside0 (kq ≤ kj2) ∧ Aside0 (w'.heap[gb251]? = some (.cells #[.int .i64 a0_0, .int .i64 a0_1, .int .i64 a0_2, .int .i64 a0_3, (.slice A0_4 l0_4.length c0_4), (.slice A0_5 l0_5.length c0_5), (.slice A0_6 l0_6.length c0_6), .int .i64 a0_7, (.slice A0_8 l0_8.length c0_8), (.slice A0_9 l0_9.length c0_9)] 41 (0, 0))) ∧ Aside0 (w'.heap[gb252]? = some (.cells #[.int .i64 a1_0, .int .i64 a1_1, .int .i64 a1_2, .int .i64 a1_3, (.slice A1_4 l1_4.length c1_4), (.slice A1_5 l1_5.length c1_5), (.slice A1_6 l1_6.length c1_6), .int .i64 a1_7, (.slice A1_8 l1_8.length c1_8), (.slice A1_9 l1_9.length c1_9)] 41 (0, 0))) ∧ Aside0 (Below w.heap.size w w'))
    case atStart => exact ⟨(0), rfl, H', ⟨Nat.le_refl _⟩, ⟨BK251.out⟩, ⟨BK252.out⟩, ⟨nxD HB⟩⟩
    case round =>
     clear H'
     obtain ⟨x5_2, rfl, HA, HK2, BK251, BK252, HB⟩ := hrel
     cases gk with
     | zero => exact absurd HA.out (by simp [spec_SameStream.l0])
     | succ k2 =>
      have H := HA.out
      clear HA
      simp only [spec_SameStream.l0] at H
      by_cases c68 : x5_2 < (l0_4.length : Int)
      ·rw [if_pos c68] at H
       have c68b0 := zT c68
       clear c68
       by_cases c69 : 0 ≤ x5_2
       ·rw [if_pos c69] at H
        have c69b0 := zT c69
        clear c69
        by_cases c70 : x5_2 < (l1_4.length : Int)
        ·rw [if_pos c70] at H
         have c70b0 := zT c70
         clear c70
         by_cases c71 : (!(((rd_T53 l0_4 x5_2).f0) == ((rd_T53 l1_4 x5_2).f0)) || (!(((rd_T53 l0_4 x5_2).f1) == ((rd_T53 l1_4 x5_2).f1)) || (!(((rd_T53 l0_4 x5_2).f2) == ((rd_T53 l1_4 x5_2).f2)) || (!(((rd_T53 l0_4 x5_2).f3) == ((rd_T53 l1_4 x5_2).f3)))))) = true
         ·rw [if_pos c71] at H
          have c71b0 : (!(((rd_T53 l0_4 x5_2).f0) == ((rd_T53 l1_4 x5_2).f0)) || (!(((rd_T53 l0_4 x5_2).f1) == ((rd_T53 l1_4 x5_2).f1)) || (!(((rd_T53 l0_4 x5_2).f2) == ((rd_T53 l1_4 x5_2).f2)) || (!(((rd_T53 l0_4 x5_2).f3) == ((rd_T53 l1_4 x5_2).f3)))))) = true := c71
          clear c71
          obtain rfl := Option.some.inj H
          have hnb72 := NB251_252.out
          have hnc72 := NB252_251.out
          obtain ⟨hcz73_0, hcz73_1, hcz73_2, hcz73_3, hcz73_4, hcz73_5, hcz73_6, hcz73_7, hcz73_8, hcz73_9⟩ := cz10 BK251
          have p257 : 0 ≤ (x5_2 : Int) := zI (by first | (with_reducible assumption) | assumption)
          have q257 : x5_2 < (l0_4.length : Int) := zI (by first | (with_reducible assumption) | assumption)
          obtain ⟨ad257, e257, hx257_0, hx257_1, hx257_2, hx257_3⟩ := at_T53 HR0_4.out x5_2 p257 q257
          cases e257
          replace hx257_0 := (HB.out.cell (World.block_lt_of_cell? w _ hx257_0)).trans hx257_0
          replace hx257_1 := (HB.out.cell (World.block_lt_of_cell? w _ hx257_1)).trans hx257_1
          replace hx257_2 := (HB.out.cell (World.block_lt_of_cell? w _ hx257_2)).trans hx257_2
          replace hx257_3 := (HB.out.cell (World.block_lt_of_cell? w _ hx257_3)).trans hx257_3
          replace p257 := eq_true p257
          replace q257 := eq_true q257
          obtain ⟨hcz74_0, hcz74_1, hcz74_2, hcz74_3, hcz74_4, hcz74_5, hcz74_6, hcz74_7, hcz74_8, hcz74_9⟩ := cz10 BK252
          have p258 : 0 ≤ (x5_2 : Int) := zI (by first | (with_reducible assumption) | assumption)
          have q258 : x5_2 < (l1_4.length : Int) := zI (by first | (with_reducible assumption) | assumption)
          obtain ⟨ad258, e258, hx258_0, hx258_1, hx258_2, hx258_3⟩ := at_T53 HR1_4.out x5_2 p258 q258
          cases e258
          replace hx258_0 := (HB.out.cell (World.block_lt_of_cell? w _ hx258_0)).trans hx258_0
          replace hx258_1 := (HB.out.cell (World.block_lt_of_cell? w _ hx258_1)).trans hx258_1
          replace hx258_2 := (HB.out.cell (World.block_lt_of_cell? w _ hx258_2)).trans hx258_2
          replace hx258_3 := (HB.out.cell (World.block_lt_of_cell? w _ hx258_3)).trans hx258_3
          replace p258 := eq_true p258
          replace q258 := eq_true q258
          go_wp2
          repeat (go_quiet (fail); try go_wp2)
          go_ret
          exact ⟨rfl, nxD HB⟩
         ·rw [if_neg c71] at H
          have c71b0 : (!(((rd_T53 l0_4 x5_2).f0) == ((rd_T53 l1_4 x5_2).f0)) || (!(((rd_T53 l0_4 x5_2).f1) == ((rd_T53 l1_4 x5_2).f1)) || (!(((rd_T53 l0_4 x5_2).f2) == ((rd_T53 l1_4 x5_2).f2)) || (!(((rd_T53 l0_4 x5_2).f3) == ((rd_T53 l1_4 x5_2).f3)))))) = false := by simpa using c71
          clear c71
          by_cases c75 : x5_2 < (l0_6.length : Int)
          ·rw [if_pos c75] at H
           have c75b0 := zT c75
           clear c75
           by_cases c76 : x5_2 < (l1_6.length : Int)
           ·rw [if_pos c76] at H
            have c76b0 := zT c76
            clear c76
            replace H := Option.bind_eq_some_iff.mp H
            obtain ⟨t261, A770, H⟩ := H
            try dsimp only at H
            have A77 := zA A770
            clear A770
            have HF78 := zA H
            clear H
            have hnb79 := NB251_252.out
            have hnc79 := NB252_251.out
            obtain ⟨hcz80_0, hcz80_1, hcz80_2, hcz80_3, hcz80_4, hcz80_5, hcz80_6, hcz80_7, hcz80_8, hcz80_9⟩ := cz10 BK251
            have p257 : 0 ≤ (x5_2 : Int) := zI (by first | (with_reducible assumption) | assumption)
            have q257 : x5_2 < (l0_4.length : Int) := zI (by first | (with_reducible assumption) | assumption)
            obtain ⟨ad257, e257, hx257_0, hx257_1, hx257_2, hx257_3⟩ := at_T53 HR0_4.out x5_2 p257 q257
            cases e257
            replace hx257_0 := (HB.out.cell (World.block_lt_of_cell? w _ hx257_0)).trans hx257_0
            replace hx257_1 := (HB.out.cell (World.block_lt_of_cell? w _ hx257_1)).trans hx257_1
            replace hx257_2 := (HB.out.cell (World.block_lt_of_cell? w _ hx257_2)).trans hx257_2
            replace hx257_3 := (HB.out.cell (World.block_lt_of_cell? w _ hx257_3)).trans hx257_3
            replace p257 := eq_true p257
            replace q257 := eq_true q257
            obtain ⟨hcz81_0, hcz81_1, hcz81_2, hcz81_3, hcz81_4, hcz81_5, hcz81_6, hcz81_7, hcz81_8, hcz81_9⟩ := cz10 BK252
            have p258 : 0 ≤ (x5_2 : Int) := zI (by first | (with_reducible assumption) | assumption)
            have q258 : x5_2 < (l1_4.length : Int) := zI (by first | (with_reducible assumption) | assumption)
            obtain ⟨ad258, e258, hx258_0, hx258_1, hx258_2, hx258_3⟩ := at_T53 HR1_4.out x5_2 p258 q258
            cases e258
            replace hx258_0 := (HB.out.cell (World.block_lt_of_cell? w _ hx258_0)).trans hx258_0
            replace hx258_1 := (HB.out.cell (World.block_lt_of_cell? w _ hx258_1)).trans hx258_1
            replace hx258_2 := (HB.out.cell (World.block_lt_of_cell? w _ hx258_2)).trans hx258_2
            replace hx258_3 := (HB.out.cell (World.block_lt_of_cell? w _ hx258_3)).trans hx258_3
            replace p258 := eq_true p258
            replace q258 := eq_true q258
            have p259 : 0 ≤ (x5_2 : Int) := zI (by first | (with_reducible assumption) | assumption)
            have q259 : x5_2 < (l0_6.length : Int) := zI (by first | (with_reducible assumption) | assumption)
            obtain ⟨ad259, A259_0, c259_0, e259, hx259_0, hl259_0, hi259_0⟩ := at_L3 HR0_6.out x5_2 p259 q259
            cases e259
            replace hx259_0 := (HB.out.cell (World.block_lt_of_cell? w _ hx259_0)).trans hx259_0
            have HR259_0 := zA hi259_0
            have HC259_0 := zA hl259_0
            clear hi259_0 hl259_0
            replace p259 := eq_true p259
            replace q259 := eq_true q259
            have p260 : 0 ≤ (x5_2 : Int) := zI (by first | (with_reducible assumption) | assumption)
            have q260 : x5_2 < (l1_6.length : Int) := zI (by first | (with_reducible assumption) | assumption)
            obtain ⟨ad260, A260_0, c260_0, e260, hx260_0, hl260_0, hi260_0⟩ := at_L3 HR1_6.out x5_2 p260 q260
            cases e260
            replace hx260_0 := (HB.out.cell (World.block_lt_of_cell? w _ hx260_0)).trans hx260_0
            have HR260_0 := zA hi260_0
            have HC260_0 := zA hl260_0
            clear hi260_0 hl260_0
            replace p260 := eq_true p260
            replace q260 := eq_true q260
            go_upto_if 104 with (first | (go_at_call 15; (with_reducible refine (spec_l19Lists.calls k2 _ _ (rd_L3 l0_6 x5_2) _ _ (rd_L3 l1_6 x5_2) t261 _ ?side1 ?side2 ?side3 ?side4 A77.out).mono ?_); (case side1 => exact nxC HR259_0 HB); (case side2 => exact HC259_0.out); (case side3 => exact nxC HR260_0 HB); (case side4 => exact HC260_0.out); rintro e w' ⟨rfl, ⟨nd, rfl⟩⟩; (try first | exact ⟨rfl, _, World.drewN_drewN _ _ _⟩ | exact ⟨rfl, _, Eq.trans (World.drewN_drewN _ _ _) (congrArg (World.drewN _) (Nat.add_assoc _ _ _))⟩)))
            repeat (go_quiet (first | (go_at_call 15; (with_reducible refine (spec_l19Lists.calls k2 _ _ (rd_L3 l0_6 x5_2) _ _ (rd_L3 l1_6 x5_2) t261 _ ?side1 ?side2 ?side3 ?side4 A77.out).mono ?_); (case side1 => exact nxC HR259_0 HB); (case side2 => exact HC259_0.out); (case side3 => exact nxC HR260_0 HB); (case side4 => exact HC260_0.out); rintro e w' ⟨rfl, ⟨nd, rfl⟩⟩; (try first | exact ⟨rfl, _, World.drewN_drewN _ _ _⟩ | exact ⟨rfl, _, Eq.trans (World.drewN_drewN _ _ _) (congrArg (World.drewN _) (Nat.add_assoc _ _ _))⟩))); go_upto_if 104 with (first | (go_at_call 15; (with_reducible refine (spec_l19Lists.calls k2 _ _ (rd_L3 l0_6 x5_2) _ _ (rd_L3 l1_6 x5_2) t261 _ ?side1 ?side2 ?side3 ?side4 A77.out).mono ?_); (case side1 => exact nxC HR259_0 HB); (case side2 => exact HC259_0.out); (case side3 => exact nxC HR260_0 HB); (case side4 => exact HC260_0.out); rintro e w' ⟨rfl, ⟨nd, rfl⟩⟩; (try first | exact ⟨rfl, _, World.drewN_drewN _ _ _⟩ | exact ⟨rfl, _, Eq.trans (World.drewN_drewN _ _ _) (congrArg (World.drewN _) (Nat.add_assoc _ _ _))⟩))))
            have H := HF78.out
            clear HF78
            by_cases c82 : t261 = true
            ·subst c82
             rw [if_pos rfl] at H
             have H' := zA H
             clear H
             go_wp2
             repeat (go_quiet (fail); try go_wp2)
             go_roundg k2
             case measure => have := HJ2.out; have := HK2.out; omega
             case rel => exact ⟨(wrap64 (x5_2 + 1)), rfl, H', ⟨by have := HJ2.out; have := HK2.out; omega⟩, ⟨BK251.out⟩, ⟨BK252.out⟩, ⟨nxD HB⟩⟩
            ·replace c82 := Bool.eq_false_iff.mpr c82
             subst c82
             rw [if_neg (show ¬ (false = true) by decide)] at H
             obtain rfl := Option.some.inj H
             go_wp2
             repeat (go_quiet (fail); try go_wp2)
             go_ret
             exact ⟨rfl, nxD HB⟩
           ·rw [if_neg c76] at H
            exact absurd H (by simp)
          ·rw [if_neg c75] at H
           exact absurd H (by simp)
        ·rw [if_neg c70] at H
         exact absurd H (by simp)
       ·rw [if_neg c69] at H
        exact absurd H (by simp)
      ·rw [if_neg c68] at H
       have c68b0 := decide_eq_false c68
       clear c68
       obtain rfl := Option.some.inj H
       have hnb83 := NB251_252.out
       have hnc83 := NB252_251.out
       obtain ⟨hcz84_0, hcz84_1, hcz84_2, hcz84_3, hcz84_4, hcz84_5, hcz84_6, hcz84_7, hcz84_8, hcz84_9⟩ := cz10 BK251
       go_wp2
       repeat (go_quiet (fail); try go_wp2)
       go_ret
       exact ⟨rfl, nxD HB⟩
theorem streamOk_len {p w h r : Int} {l : List SC} {tb : List (List Int)} {pl : List (List (List Int))} {md : Int} {sc : List SN} {nt : List Int} (q : streamOkM p w h r l tb pl md sc nt = true) : pl.length = l.length := by
 unfold streamOkM coefsOkM at q
 simp only [Bool.and_eq_true, decide_eq_true_eq] at q
 exact q.2.1.2.1
theorem spec_SameStream.ev (p w h r : Int) (l : List SC) (tb : List (List Int)) (pl : List (List (List Int))) (md : Int) (sc : List SN) (nt : List Int) (p' w' h' r' : Int) (l' : List SC) (tb' : List (List Int)) (pl' : List (List (List Int))) (md' : Int) (sc' : List SN) (nt' : List Int)
  (ht : tb.length ≤ 1048576 ∧ ∀ x ∈ tb, x.length ≤ 1048576) (hp : pl.length ≤ 1048576 ∧ ∀ x ∈ pl, x.length ≤ 1048576 ∧ ∀ y ∈ x, y.length ≤ 1048576) (hn : nt.length ≤ 1048576) (hm : sc.length ≤ 1048576) (hsl : ∀ s ∈ sc, s.f0.length ≤ 1048576)
  (hp' : pl'.length ≤ 1048576) (hm' : sc'.length ≤ 1048576) (hsl' : ∀ s ∈ sc', s.f0.length ≤ 1048576) :
  Ev (fun k => spec_SameStream.f k p w h r l tb pl md sc nt p' w' h' r' l' tb' pl' md' sc' nt') (sameM p w h r l tb pl md sc nt p' w' h' r' l' tb' pl' md' sc' nt') := by
 have bad : Ev (fun k => spec_SameStream.j0 k true p w h r l tb pl md sc nt p' w' h' r' l' tb' pl' md' sc' nt') false := Ev.step (fun _ => by rw [spec_SameStream.j0]) (Ev.ip rfl (Ev.now _))
 unfold spec_SameStream.f sameM
 refine Ev.bind (spec_StreamOk.ev p w h r l tb pl md sc nt (by omega) (by omega) (fun s hs => by have := hsl s hs; omega)) ?_
 cases ok1 : streamOkM p w h r l tb pl md sc nt with
 | false => exact Ev.ng (by simp) (Ev.eq bad (by rw [Bool.false_and]))
 | true =>
 rw [Bool.true_and]
 refine Ev.ip rfl (Ev.bind (spec_StreamOk.ev p' w' h' r' l' tb' pl' md' sc' nt' (by omega) (by omega) (fun s hs => by have := hsl' s hs; omega)) ?_)
 cases ok2 : streamOkM p' w' h' r' l' tb' pl' md' sc' nt' with
 | false => exact Ev.ng (by simp) (Ev.eq bad (by rw [Bool.false_and]))
 | true =>
 rw [Bool.true_and]
 refine Ev.ip rfl ?_
 have n1 := streamOk_len ok1
 have n2 := streamOk_len ok2
 by_cases e1 : p = p'
 rotate_left
 ·exact Ev.ng e1 (Ev.eq bad (by rw [decide_eq_false e1, Bool.false_and]))
 rw [zT e1, Bool.true_and]
 refine Ev.ip e1 ?_
 by_cases e2 : w = w'
 rotate_left
 ·exact Ev.ng e2 (Ev.eq bad (by rw [decide_eq_false e2, Bool.false_and]))
 rw [zT e2, Bool.true_and]
 refine Ev.ip e2 ?_
 by_cases e3 : h = h'
 rotate_left
 ·exact Ev.ng e3 (Ev.eq bad (by rw [decide_eq_false e3, Bool.false_and]))
 rw [zT e3, Bool.true_and]
 refine Ev.ip e3 ?_
 by_cases e4 : l.length = l'.length
 rotate_left
 ·exact Ev.ng (by omega) (Ev.eq bad (by rw [eqComps_len l l' e4, Bool.false_and]))
 refine Ev.ip (by omega) (Ev.bind (spec_l19Lists.ev tb tb' (by omega) (fun x hx => by have := ht.2 x hx; omega)) ?_)
 cases e5 : (tb == tb') with
 | false => exact Ev.ng (by simp) (Ev.eq bad (by rw [Bool.false_and, Bool.and_false]))
 | true =>
 rw [Bool.true_and]
 refine Ev.ip rfl (Ev.bind (spec_l19Bytes.ev nt nt' (by omega)) ?_)
 cases e6 : (nt == nt') with
 | false => exact Ev.eq bad (by rw [Bool.and_false, Bool.and_false])
 | true =>
 rw [Bool.and_true]
 refine Ev.step (fun _ => by rw [spec_SameStream.j0]) (Ev.ng (by simp) ?_)
 clear ok1 ok2 bad e5 e6
 have key : ∀ d i : Nat, i + d = l.length → Ev (fun k => spec_SameStream.l0 k (i : Int) p w h r l tb pl md sc nt p' w' h' r' l' tb' pl' md' sc' nt') (eqComps (l.drop i) (l'.drop i) && (pl.drop i == pl'.drop i)) := by
  intro d
  induction d with
  | zero =>
   intro i hi
   refine Ev.step (fun _ => by rw [spec_SameStream.l0]) (Ev.ng (by omega) (Ev.eq (Ev.now _) ?_))
   rw [List.drop_of_length_le (by omega), List.drop_of_length_le (by omega), List.drop_of_length_le (by omega), List.drop_of_length_le (by omega)]; rfl
  | succ d ih =>
   intro i hi
   have h1 : i < l.length := by omega
   have h2 : i < l'.length := by omega
   have h3 : i < pl.length := by omega
   have h4 : i < pl'.length := by omega
   have e : (pl.drop i == pl'.drop i) = (pl[i] == pl'[i] && pl.drop (i + 1) == pl'.drop (i + 1)) := by
    rw [List.drop_eq_getElem_cons h3, List.drop_eq_getElem_cons h4]; rfl
   refine Ev.step (fun _ => by rw [spec_SameStream.l0]) ?_
   rw [rdC_nat l i h1, rdC_nat l' i h2, rdL3_nat pl i h3, rdL3_nat pl' i h4, wrap_succ i (by omega), e, List.drop_eq_getElem_cons h1, List.drop_eq_getElem_cons h2, eqComps]
   rw [show (!(l[i].f0 == l'[i].f0) || (!(l[i].f1 == l'[i].f1) || (!(l[i].f2 == l'[i].f2) || (!(l[i].f3 == l'[i].f3))))) = !ceq l[i] l'[i] by unfold ceq; simp only [Bool.not_and]]
   refine Ev.ip (by omega) (Ev.ip (by omega) (Ev.ip (by omega) ?_))
   cases c1 : ceq l[i] l'[i] with
   | false => exact Ev.ip rfl (Ev.eq (Ev.now _) (by rw [Bool.false_and, Bool.false_and]))
   | true =>
    have hb := hp.2 _ (List.getElem_mem h3)
    refine Ev.ng (by simp) (Ev.ip (by omega) (Ev.ip (by omega) (Ev.bind (spec_l19Lists.ev pl[i] pl'[i] (by omega) (fun x hx => by have := hb.2 x hx; omega)) ?_)))
    cases c2 : (pl[i] == pl'[i]) with
    | false => exact Ev.ng (by simp) (Ev.eq (Ev.now _) (by rw [Bool.false_and, Bool.and_false]))
    | true => exact Ev.ip rfl (Ev.eq (ih (i + 1) (by omega)) (by rw [Bool.true_and, Bool.true_and]))
 exact key l.length 0 (Nat.zero_add _)
end Go.Proofs.YtilimpjcdeeaiaaGreat.G


namespace Go.Proofs.YtilimpjcdeeaiaaGreat.G
open Go.RowKit Go.Proofs.YtilimpjcdeeaiaaGreatW.PrintWords Go.Proofs.YtilimpjcdeeaiaaGreatW.PrintLast Go.Proofs.YtilimpjcdeeaiaaGreatW.PrintMore
attribute [local go_sem] max2_int min2_int max_two min_two max_three min_three max_four min_four   -- for this text's walks alone
def laws_toStream.f (k : Nat) (a0_0 : Int) (a0_1 : Int) (a0_2 : Int) (a0_3 : Int) (l0_4 : List (S95)) (l0_5 : List (List Int)) (l0_6 : List (List (List Int))) (a0_7 : Int) (l0_8 : List (S70)) (l0_9 : List Int) : Option (Int × Int × Int × Int × (List (S53)) × (List (List Int)) × (List (List (List Int))) × Int × (List (S79)) × List Int) := (laws_toFrame.f k a0_0 a0_1 a0_2 a0_3 l0_4).bind fun bt305 => ((laws_toIntSS.f l0_5).bind fun t312 => ((laws_toCoefs.f l0_6).bind fun t315 => ((laws_toScanS.f l0_8).bind fun t318 => ((laws_toByteS.f k l0_9).bind fun t321 => (some (bt305.1, bt305.2.1, bt305.2.2.1, bt305.2.2.2.1, bt305.2.2.2.2, t312, t315, a0_7, t318, t321))))))
set_option maxHeartbeats 8000000 in
set_option maxRecDepth 100000 in
theorem laws_toStream.calls (k : Nat) (a0_0 : Int) (a0_1 : Int) (a0_2 : Int) (a0_3 : Int) (A0_4 : Option Addr) (c0_4 : Nat) (l0_4 : List (S95)) (A0_5 : Option Addr) (c0_5 : Nat) (l0_5 : List (List Int)) (A0_6 : Option Addr) (c0_6 : Nat) (l0_6 : List (List (List Int))) (a0_7 : Int) (A0_8 : Option Addr) (c0_8 : Nat) (l0_8 : List (S70)) (A0_9 : Option Addr) (c0_9 : Nat) (l0_9 : List Int) (r1 : Int) (r2 : Int) (r3 : Int) (r4 : Int) (r5 : List (S53)) (r6 : List (List Int)) (r7 : List (List (List Int))) (r8 : Int) (r9 : List (S79)) (r10 : List Int) (w : World) (hr0_4 : Kd.C k95 w A0_4 l0_4.length l0_4) (hc0_4 : l0_4.length ≤ c0_4) (hr0_5 : Kd.C (Kd.slice 3 (Kd.int .i64)) w A0_5 l0_5.length l0_5) (hc0_5 : l0_5.length ≤ c0_5) (hr0_6 : Kd.C (Kd.slice 66 (Kd.slice 3 (Kd.int .i64))) w A0_6 l0_6.length l0_6) (hc0_6 : l0_6.length ≤ c0_6) (hr0_8 : Kd.C k70 w A0_8 l0_8.length l0_8) (hc0_8 : l0_8.length ≤ c0_8) (hr0_9 : Kd.C (Kd.int .u8) w A0_9 l0_9.length l0_9) (hc0_9 : l0_9.length ≤ c0_9) (h : laws_toStream.f k a0_0 a0_1 a0_2 a0_3 l0_4 l0_5 l0_6 a0_7 l0_8 l0_9 = some (r1, r2, r3, r4, r5, r6, r7, r8, r9, r10)) :
  Calls Tryz.prog 6 #[.agg #[.int .i64 a0_0, .int .i64 a0_1, .int .i64 a0_2, .int .i64 a0_3, .slice A0_4 l0_4.length c0_4, .slice A0_5 l0_5.length c0_5, .slice A0_6 l0_6.length c0_6, .int .i64 a0_7, .slice A0_8 l0_8.length c0_8, .slice A0_9 l0_9.length c0_9]] w fun e w' => ∃ v4_ v5_ v6_ v8_ v9_ : Value, e = .returned (.agg #[.int .i64 r1, .int .i64 r2, .int .i64 r3, .int .i64 r4, v4_, v5_, v6_, .int .i64 r8, v8_, v9_]) ∧ Kd.R k53 53 w' w.heap.size (fun _ => True) v4_ r5 ∧ Kd.S (Kd.slice 3 (Kd.int .i64)) 66 w' w.heap.size (fun _ => True) v5_ r6 ∧ Kd.R (Kd.slice 66 (Kd.slice 3 (Kd.int .i64))) 25 w' w.heap.size (fun k_ => some k_ ≠ (v5_ : Value).ownBlock) v6_ r7 ∧ Kd.S k79 79 w' w.heap.size (fun _ => True) v8_ r9 ∧ Kd.R (Kd.int .u8) 5 w' w.heap.size (fun _ => True) v9_ r10 ∧ Below w.heap.size w w' := by
 have hu32 := Tryz.underlying32
 have hu41 := Tryz.underlying41
 have hu24 := Tryz.underlying24
 have hu37 := Tryz.underlying37
 have hu28 := Tryz.underlying28
 have hu38 := Tryz.underlying38
 have HR0_4 := zA hr0_4
 have HC0_4 := zA hc0_4
 clear hr0_4 hc0_4
 have HR0_5 := zA hr0_5
 have HC0_5 := zA hc0_5
 clear hr0_5 hc0_5
 have HR0_6 := zA hr0_6
 have HC0_6 := zA hc0_6
 clear hr0_6 hc0_6
 have HR0_8 := zA hr0_8
 have HC0_8 := zA hc0_8
 clear hr0_8 hc0_8
 have HR0_9 := zA hr0_9
 have HC0_9 := zA hc0_9
 clear hr0_9 hc0_9
 have HB := zA (Below.refl w.heap.size w)
 have H : ((laws_toFrame.f k a0_0 a0_1 a0_2 a0_3 l0_4).bind fun bt305 => ((laws_toIntSS.f l0_5).bind fun t312 => ((laws_toCoefs.f l0_6).bind fun t315 => ((laws_toScanS.f l0_8).bind fun t318 => ((laws_toByteS.f k l0_9).bind fun t321 => (some (bt305.1, bt305.2.1, bt305.2.2.1, bt305.2.2.2.1, bt305.2.2.2.2, t312, t315, a0_7, t318, t321))))))) = some (r1, r2, r3, r4, r5, r6, r7, r8, r9, r10) := h
 clear h
 replace H := Option.bind_eq_some_iff.mp H
 obtain ⟨⟨t305, t306, t307, t308, t309⟩, A20, H⟩ := H
 try dsimp only at H
 have A2 := zA A20
 clear A20
 replace H := Option.bind_eq_some_iff.mp H
 obtain ⟨t312, A30, H⟩ := H
 try dsimp only at H
 have A3 := zA A30
 clear A30
 replace H := Option.bind_eq_some_iff.mp H
 obtain ⟨t315, A40, H⟩ := H
 try dsimp only at H
 have A4 := zA A40
 clear A40
 replace H := Option.bind_eq_some_iff.mp H
 obtain ⟨t318, A50, H⟩ := H
 try dsimp only at H
 have A5 := zA A50
 clear A50
 replace H := Option.bind_eq_some_iff.mp H
 obtain ⟨t321, A60, H⟩ := H
 try dsimp only at H
 have A6 := zA A60
 clear A60
 simp only [Option.some.injEq, Prod.mk.injEq] at H
 obtain ⟨rfl, rfl, rfl, rfl, rfl, rfl, rfl, rfl, rfl, rfl⟩ := H
 go_enter Tryz.func6, Tryz.ntmps6
 go_wp2_with (first | ((with_reducible refine gate_dst (N := 1) rfl ?_); refine nxX (N := 1) (cs := #[.int .i64 a0_0, .int .i64 a0_1, .int .i64 a0_2, .int .i64 a0_3, .slice A0_4 l0_4.length c0_4, .slice A0_5 l0_5.length c0_5, .slice A0_6 l0_6.length c0_6, .int .i64 a0_7, .slice A0_8 l0_8.length c0_8, .slice A0_9 l0_9.length c0_9]) (t := 32) ?_; intro gb302 hg w7 hbox hb; have BK302 := zA (hbox); have GE302 := nxG HB hg; replace HB := nxH hb HB; clear hb hbox hg) | ((with_reducible refine gate_dst (N := 2) rfl ?_); refine nxX (N := 2) (cs := #[.int .i64 0, .int .i64 0, .int .i64 0, .int .i64 0, .slice none 0 0, .slice none 0 0, .slice none 0 0, .int .i64 0, .slice none 0 0, .slice none 0 0]) (t := 41) ?_; intro gb303 hg w8 hbox hb; have BK303 := zA (hbox); have GE303 := nxG HB hg; have NB302_303 := nxL BK302 hg; have NB303_302 := nxK BK302 hg; replace BK302 := nxB hb BK302; replace HB := nxH hb HB; clear hb hbox hg) | ((with_reducible refine gate_dst (N := 3) rfl ?_); refine nxX (N := 3) (cs := #[.int .i64 0, .int .i64 0, .int .i64 0, .int .i64 0, .slice none 0 0, .slice none 0 0, .slice none 0 0, .int .i64 0, .slice none 0 0, .slice none 0 0]) (t := 41) ?_; intro gb304 hg w9 hbox hb; have BK304 := zA (hbox); have GE304 := nxG HB hg; have NB302_304 := nxL BK302 hg; have NB304_302 := nxK BK302 hg; have NB303_304 := nxL BK303 hg; have NB304_303 := nxK BK303 hg; replace BK302 := nxB hb BK302; replace BK303 := nxB hb BK303; replace HB := nxH hb HB; clear hb hbox hg; have hnb10 := NB302_303.out; have hnc10 := NB303_302.out; have hnb11 := NB302_304.out; have hnc11 := NB304_302.out; obtain ⟨hcz12_0, hcz12_1, hcz12_2, hcz12_3, hcz12_4, hcz12_5, hcz12_6, hcz12_7, hcz12_8, hcz12_9⟩ := cz10 BK302; obtain ⟨hfz12_0, hfz12_1, hfz12_2, hfz12_3, hfz12_4, hfz12_5, hfz12_6, hfz12_7, hfz12_8, hfz12_9⟩ := fz10 BK302) | ((with_reducible refine gate_callee (f := 17) rfl ?_); refine goesL_ (some 6) rfl rfl Tryz.func17 (by kernel_rfl) rfl #[.agg #[.int .i64 a0_0, .int .i64 a0_1, .int .i64 a0_2, .int .i64 a0_3, .slice A0_4 l0_4.length c0_4]] rfl (by (try simp only [zU, zV, zW]); first | done | rfl | (simp only [zR, zQ]; rfl)) ?_; (with_reducible refine (laws_toFrame.calls k a0_0 a0_1 a0_2 a0_3 _ _ l0_4 t305 t306 t307 t308 t309 _ ?side1 ?side2 A2.out).mono ?_); (case side1 => exact nxC HR0_4 HB); (case side2 => exact HC0_4.out); rintro e w13 ⟨v310, rfl, ho0, hb⟩; refine ⟨_, rfl, ?_⟩; have n0_ := zA (Kd.R_lower ho0 (zL (by repeat (first | (with_reducible first | exact HB.out | apply zC | apply zB | apply zF | refine zE ?_ GE302.out | refine zE ?_ GE303.out | refine zE ?_ GE304.out) | exact HB.out)))); have n1_ := nxB hb BK302; have n2_ := nxB hb BK303; have n3_ := nxB hb BK304; have n4_ := nxH hb HB; clear BK302; clear BK303; clear BK304; clear HB; have HO311 := n0_; have BK302 := n1_; have BK303 := n2_; have BK304 := n3_; have HB := n4_; clear n0_ n1_ n2_ n3_ n4_; (try clear hb); (try clear hb2); (try clear hk); (try clear hi); (try clear ho0); have hnb14 := NB304_303.out; have hnc14 := NB303_304.out; obtain ⟨hcz15_0, hcz15_1, hcz15_2, hcz15_3, hcz15_4, hcz15_5, hcz15_6, hcz15_7, hcz15_8, hcz15_9⟩ := cz10 BK304; obtain ⟨hfz15_0, hfz15_1, hfz15_2, hfz15_3, hfz15_4, hfz15_5, hfz15_6, hfz15_7, hfz15_8, hfz15_9⟩ := fz10 BK304; obtain ⟨Ao16, co16, eo16⟩ := Kd.R_slice HO311.out; subst eo16; obtain ⟨hcz17_0, hcz17_1, hcz17_2, hcz17_3, hcz17_4, hcz17_5, hcz17_6, hcz17_7, hcz17_8, hcz17_9⟩ := cz10 BK302; obtain ⟨hfz17_0, hfz17_1, hfz17_2, hfz17_3, hfz17_4, hfz17_5, hfz17_6, hfz17_7, hfz17_8, hfz17_9⟩ := fz10 BK302) | ((with_reducible refine gate_callee (f := 18) rfl ?_); refine goesL_ (some 10) rfl rfl Tryz.func18 (by kernel_rfl) rfl #[.slice A0_5 l0_5.length c0_5] rfl (by (try simp only [zU, zV, zW]); first | done | rfl | (simp only [zR, zQ]; rfl)) ?_; (with_reducible refine (laws_toIntSS.calls _ _ l0_5 t312 _ ?side1 ?side2 A3.out).mono ?_); (case side1 => exact Kd.C_below HR0_5.out (by repeat (first | (with_reducible first | exact HB.out | apply zC | apply zB | apply zF | refine zE ?_ GE302.out | refine zE ?_ GE303.out | refine zE ?_ GE304.out) | exact HB.out))); (case side2 => exact HC0_5.out); rintro e w18 ⟨v313, rfl, ho0, hb⟩; refine ⟨_, rfl, ?_⟩; have n0_ := zA (Kd.R_below (by (with_reducible repeat (first | apply zN | apply zM | apply zO)); exact (zP (Kd.R_far (p := ⟨gb304, 4, none⟩) (Kd.R_far (p := ⟨gb304, 3, none⟩) (Kd.R_far (p := ⟨gb304, 2, none⟩) (Kd.R_far (p := ⟨gb304, 1, none⟩) (Kd.R_far (p := ⟨gb304, 0, none⟩) (zX HO311.out BK304.out (by decide)) (fun _ hk => hk.2) (.int .i64 t305)) (fun _ hk => hk.2) (.int .i64 t306)) (fun _ hk => hk.2) (.int .i64 t307)) (fun _ hk => hk.2) (.int .i64 t308)) (fun _ hk => hk.2) (.slice Ao16 t309.length co16)) (fun _ h_ => h_.1))) hb); have n1_ := zA (Kd.S_lower ho0 (zL (by repeat (first | (with_reducible first | exact HB.out | apply zC | apply zB | apply zF | refine zE ?_ GE302.out | refine zE ?_ GE303.out | refine zE ?_ GE304.out) | exact HB.out)))); have n2_ := zA (blk_below (g := gb302) (o := .cells #[.int .i64 a0_0, .int .i64 a0_1, .int .i64 a0_2, .int .i64 a0_3, .slice A0_4 l0_4.length c0_4, .slice A0_5 l0_5.length c0_5, .slice A0_6 l0_6.length c0_6, .int .i64 a0_7, .slice A0_8 l0_8.length c0_8, .slice A0_9 l0_9.length c0_9] 32 (0, 0)) (by (with_reducible repeat (first | refine zG ?_ _ | refine zH ?_ | refine zD ?_ _)); refine blk_far ?_ NB302_304.out _; (with_reducible repeat (first | refine zG ?_ _ | refine zH ?_ | refine zD ?_ _)); refine blk_far ?_ NB302_304.out _; (with_reducible repeat (first | refine zG ?_ _ | refine zH ?_ | refine zD ?_ _)); refine blk_far ?_ NB302_304.out _; (with_reducible repeat (first | refine zG ?_ _ | refine zH ?_ | refine zD ?_ _)); refine blk_far ?_ NB302_304.out _; (with_reducible repeat (first | refine zG ?_ _ | refine zH ?_ | refine zD ?_ _)); refine blk_far ?_ NB302_304.out _; (with_reducible repeat (first | refine zG ?_ _ | refine zH ?_ | refine zD ?_ _)); exact BK302.out) hb); have n3_ := zA (blk_below (g := gb303) (o := .cells #[.int .i64 0, .int .i64 0, .int .i64 0, .int .i64 0, .slice none 0 0, .slice none 0 0, .slice none 0 0, .int .i64 0, .slice none 0 0, .slice none 0 0] 41 (0, 0)) (by (with_reducible repeat (first | refine zG ?_ _ | refine zH ?_ | refine zD ?_ _)); refine blk_far ?_ NB303_304.out _; (with_reducible repeat (first | refine zG ?_ _ | refine zH ?_ | refine zD ?_ _)); refine blk_far ?_ NB303_304.out _; (with_reducible repeat (first | refine zG ?_ _ | refine zH ?_ | refine zD ?_ _)); refine blk_far ?_ NB303_304.out _; (with_reducible repeat (first | refine zG ?_ _ | refine zH ?_ | refine zD ?_ _)); refine blk_far ?_ NB303_304.out _; (with_reducible repeat (first | refine zG ?_ _ | refine zH ?_ | refine zD ?_ _)); refine blk_far ?_ NB303_304.out _; (with_reducible repeat (first | refine zG ?_ _ | refine zH ?_ | refine zD ?_ _)); exact BK303.out) hb); have n4_ := zA (blk_below (g := gb304) (o := .cells #[.int .i64 t305, .int .i64 t306, .int .i64 t307, .int .i64 t308, .slice Ao16 t309.length co16, .slice none 0 0, .slice none 0 0, .int .i64 0, .slice none 0 0, .slice none 0 0] 41 (0, 0)) (by (with_reducible repeat (first | refine zG ?_ _ | refine zH ?_ | refine zD ?_ _)); refine blk_put (cs := #[.int .i64 t305, .int .i64 t306, .int .i64 t307, .int .i64 t308, .slice none 0 0, .slice none 0 0, .slice none 0 0, .int .i64 0, .slice none 0 0, .slice none 0 0]) ?_ 4 _ rfl; (with_reducible repeat (first | refine zG ?_ _ | refine zH ?_ | refine zD ?_ _)); refine blk_put (cs := #[.int .i64 t305, .int .i64 t306, .int .i64 t307, .int .i64 0, .slice none 0 0, .slice none 0 0, .slice none 0 0, .int .i64 0, .slice none 0 0, .slice none 0 0]) ?_ 3 _ rfl; (with_reducible repeat (first | refine zG ?_ _ | refine zH ?_ | refine zD ?_ _)); refine blk_put (cs := #[.int .i64 t305, .int .i64 t306, .int .i64 0, .int .i64 0, .slice none 0 0, .slice none 0 0, .slice none 0 0, .int .i64 0, .slice none 0 0, .slice none 0 0]) ?_ 2 _ rfl; (with_reducible repeat (first | refine zG ?_ _ | refine zH ?_ | refine zD ?_ _)); refine blk_put (cs := #[.int .i64 t305, .int .i64 0, .int .i64 0, .int .i64 0, .slice none 0 0, .slice none 0 0, .slice none 0 0, .int .i64 0, .slice none 0 0, .slice none 0 0]) ?_ 1 _ rfl; (with_reducible repeat (first | refine zG ?_ _ | refine zH ?_ | refine zD ?_ _)); refine blk_put (cs := #[.int .i64 0, .int .i64 0, .int .i64 0, .int .i64 0, .slice none 0 0, .slice none 0 0, .slice none 0 0, .int .i64 0, .slice none 0 0, .slice none 0 0]) ?_ 0 _ rfl; (with_reducible repeat (first | refine zG ?_ _ | refine zH ?_ | refine zD ?_ _)); exact BK304.out) hb); have n5_ := zA (below_step (by repeat (first | (with_reducible first | exact HB.out | apply zC | apply zB | apply zF | refine zE ?_ GE302.out | refine zE ?_ GE303.out | refine zE ?_ GE304.out) | exact HB.out)) hb); clear HO311; clear BK302; clear BK303; clear BK304; clear HB; have HO311 := n0_; have HO314 := n1_; have BK302 := n2_; have BK303 := n3_; have BK304 := n4_; have HB := n5_; clear n0_ n1_ n2_ n3_ n4_ n5_; (try clear hb); (try clear hb2); (try clear hk); (try clear hi); (try clear ho0); obtain ⟨Ao19, co19, eo19⟩ := Kd.S_slice HO314.out; subst eo19; obtain ⟨hcz20_0, hcz20_1, hcz20_2, hcz20_3, hcz20_4, hcz20_5, hcz20_6, hcz20_7, hcz20_8, hcz20_9⟩ := cz10 BK304; obtain ⟨hfz20_0, hfz20_1, hfz20_2, hfz20_3, hfz20_4, hfz20_5, hfz20_6, hfz20_7, hfz20_8, hfz20_9⟩ := fz10 BK304; obtain ⟨hcz21_0, hcz21_1, hcz21_2, hcz21_3, hcz21_4, hcz21_5, hcz21_6, hcz21_7, hcz21_8, hcz21_9⟩ := cz10 BK302; obtain ⟨hfz21_0, hfz21_1, hfz21_2, hfz21_3, hfz21_4, hfz21_5, hfz21_6, hfz21_7, hfz21_8, hfz21_9⟩ := fz10 BK302) | ((with_reducible refine gate_callee (f := 19) rfl ?_); refine goesL_ (some 14) rfl rfl Tryz.func19 (by kernel_rfl) rfl #[.agg #[.slice A0_6 l0_6.length c0_6]] rfl (by (try simp only [zU, zV, zW]); first | done | rfl | (simp only [zR, zQ]; rfl)) ?_; (with_reducible refine (laws_toCoefs.calls _ _ l0_6 t315 _ ?side1 ?side2 A4.out).mono ?_); (case side1 => exact Kd.C_below HR0_6.out (by repeat (first | (with_reducible first | exact HB.out | apply zC | apply zB | apply zF | refine zE ?_ GE302.out | refine zE ?_ GE303.out | refine zE ?_ GE304.out) | exact HB.out))); (case side2 => exact HC0_6.out); rintro e w22 ⟨v316, rfl, ho0, hb⟩; refine ⟨_, rfl, ?_⟩; have n0_ := zA (Kd.R_below (by (with_reducible repeat (first | apply zN | apply zM | apply zO)); exact (zP (Kd.R_far (p := ⟨gb304, 5, none⟩) (zX HO311.out BK304.out (by decide)) (fun _ hk => hk.2) (.slice Ao19 t312.length co19)) (fun _ h_ => h_.1))) hb); have n1_ := zA (Kd.S_below (by (with_reducible repeat (first | apply zY | apply zZ | apply yA)); exact (yB (yC (p := ⟨gb304, 5, none⟩) (Kd.S_types HO314.out BK304.out (by decide)) (fun _ hk => hk.2) (.slice Ao19 t312.length co19)) (fun _ h_ => h_.1))) hb); have n2_ := zA (Kd.R_lower (Kd.R_new' ho0 (Kd.S_lt (by (with_reducible repeat (first | apply zY | apply zZ | apply yA)); exact (yB (yC (p := ⟨gb304, 5, none⟩) (Kd.S_types HO314.out BK304.out (by decide)) (fun _ hk => hk.2) (.slice Ao19 t312.length co19)) (fun _ h_ => h_.1))))) (zL (by repeat (first | (with_reducible first | exact HB.out | apply zC | apply zB | apply zF | refine zE ?_ GE302.out | refine zE ?_ GE303.out | refine zE ?_ GE304.out) | exact HB.out)))); have n3_ := zA (blk_below (g := gb302) (o := .cells #[.int .i64 a0_0, .int .i64 a0_1, .int .i64 a0_2, .int .i64 a0_3, .slice A0_4 l0_4.length c0_4, .slice A0_5 l0_5.length c0_5, .slice A0_6 l0_6.length c0_6, .int .i64 a0_7, .slice A0_8 l0_8.length c0_8, .slice A0_9 l0_9.length c0_9] 32 (0, 0)) (by (with_reducible repeat (first | refine zG ?_ _ | refine zH ?_ | refine zD ?_ _)); refine blk_far ?_ NB302_304.out _; (with_reducible repeat (first | refine zG ?_ _ | refine zH ?_ | refine zD ?_ _)); exact BK302.out) hb); have n4_ := zA (blk_below (g := gb303) (o := .cells #[.int .i64 0, .int .i64 0, .int .i64 0, .int .i64 0, .slice none 0 0, .slice none 0 0, .slice none 0 0, .int .i64 0, .slice none 0 0, .slice none 0 0] 41 (0, 0)) (by (with_reducible repeat (first | refine zG ?_ _ | refine zH ?_ | refine zD ?_ _)); refine blk_far ?_ NB303_304.out _; (with_reducible repeat (first | refine zG ?_ _ | refine zH ?_ | refine zD ?_ _)); exact BK303.out) hb); have n5_ := zA (blk_below (g := gb304) (o := .cells #[.int .i64 t305, .int .i64 t306, .int .i64 t307, .int .i64 t308, .slice Ao16 t309.length co16, .slice Ao19 t312.length co19, .slice none 0 0, .int .i64 0, .slice none 0 0, .slice none 0 0] 41 (0, 0)) (by (with_reducible repeat (first | refine zG ?_ _ | refine zH ?_ | refine zD ?_ _)); refine blk_put (cs := #[.int .i64 t305, .int .i64 t306, .int .i64 t307, .int .i64 t308, .slice Ao16 t309.length co16, .slice none 0 0, .slice none 0 0, .int .i64 0, .slice none 0 0, .slice none 0 0]) ?_ 5 _ rfl; (with_reducible repeat (first | refine zG ?_ _ | refine zH ?_ | refine zD ?_ _)); exact BK304.out) hb); have n6_ := zA (below_step (by repeat (first | (with_reducible first | exact HB.out | apply zC | apply zB | apply zF | refine zE ?_ GE302.out | refine zE ?_ GE303.out | refine zE ?_ GE304.out) | exact HB.out)) hb); clear HO311; clear HO314; clear BK302; clear BK303; clear BK304; clear HB; have HO311 := n0_; have HO314 := n1_; have HO317 := n2_; have BK302 := n3_; have BK303 := n4_; have BK304 := n5_; have HB := n6_; clear n0_ n1_ n2_ n3_ n4_ n5_ n6_; (try clear hb); (try clear hb2); (try clear hk); (try clear hi); (try clear ho0); obtain ⟨Ao23, co23, eo23⟩ := Kd.R_slice HO317.out; subst eo23; obtain ⟨hcz24_0, hcz24_1, hcz24_2, hcz24_3, hcz24_4, hcz24_5, hcz24_6, hcz24_7, hcz24_8, hcz24_9⟩ := cz10 BK304; obtain ⟨hfz24_0, hfz24_1, hfz24_2, hfz24_3, hfz24_4, hfz24_5, hfz24_6, hfz24_7, hfz24_8, hfz24_9⟩ := fz10 BK304; obtain ⟨hcz25_0, hcz25_1, hcz25_2, hcz25_3, hcz25_4, hcz25_5, hcz25_6, hcz25_7, hcz25_8, hcz25_9⟩ := cz10 BK302; obtain ⟨hfz25_0, hfz25_1, hfz25_2, hfz25_3, hfz25_4, hfz25_5, hfz25_6, hfz25_7, hfz25_8, hfz25_9⟩ := fz10 BK302) | ((with_reducible refine gate_callee (f := 20) rfl ?_); refine goesL_ (some 21) rfl rfl Tryz.func20 (by kernel_rfl) rfl #[.slice A0_8 l0_8.length c0_8] rfl (by (try simp only [zU, zV, zW]); first | done | rfl | (simp only [zR, zQ]; rfl)) ?_; (with_reducible refine (laws_toScanS.calls _ _ l0_8 t318 _ ?side1 ?side2 A5.out).mono ?_); (case side1 => exact Kd.C_below HR0_8.out (by repeat (first | (with_reducible first | exact HB.out | apply zC | apply zB | apply zF | refine zE ?_ GE302.out | refine zE ?_ GE303.out | refine zE ?_ GE304.out) | exact HB.out))); (case side2 => exact HC0_8.out); rintro e w26 ⟨v319, rfl, ho0, hb⟩; refine ⟨_, rfl, ?_⟩; have n0_ := zA (Kd.R_below (by (with_reducible repeat (first | apply zN | apply zM | apply zO)); exact (zP (Kd.R_far (p := ⟨gb304, 7, none⟩) (Kd.R_far (p := ⟨gb304, 6, none⟩) (zX HO311.out BK304.out (by decide)) (fun _ hk => hk.2) (.slice Ao23 t315.length co23)) (fun _ hk => hk.2) (.int .i64 a0_7)) (fun _ h_ => h_.1))) hb); have n1_ := zA (Kd.S_below (by (with_reducible repeat (first | apply zY | apply zZ | apply yA)); exact (yB (yC (p := ⟨gb304, 7, none⟩) (yC (p := ⟨gb304, 6, none⟩) (Kd.S_types HO314.out BK304.out (by decide)) (fun _ hk => hk.2) (.slice Ao23 t315.length co23)) (fun _ hk => hk.2) (.int .i64 a0_7)) (fun _ h_ => h_.1))) hb); have n2_ := zA (Kd.R_below (by (with_reducible repeat (first | apply zN | apply zM | apply zO)); exact (zP (Kd.R_far (p := ⟨gb304, 7, none⟩) (Kd.R_far (p := ⟨gb304, 6, none⟩) (zX HO317.out BK304.out (by decide)) (fun _ hk => hk.2) (.slice Ao23 t315.length co23)) (fun _ hk => hk.2) (.int .i64 a0_7)) (fun _ h_ => h_.1))) hb); have n3_ := zA (Kd.S_lower ho0 (zL (by repeat (first | (with_reducible first | exact HB.out | apply zC | apply zB | apply zF | refine zE ?_ GE302.out | refine zE ?_ GE303.out | refine zE ?_ GE304.out) | exact HB.out)))); have n4_ := zA (blk_below (g := gb302) (o := .cells #[.int .i64 a0_0, .int .i64 a0_1, .int .i64 a0_2, .int .i64 a0_3, .slice A0_4 l0_4.length c0_4, .slice A0_5 l0_5.length c0_5, .slice A0_6 l0_6.length c0_6, .int .i64 a0_7, .slice A0_8 l0_8.length c0_8, .slice A0_9 l0_9.length c0_9] 32 (0, 0)) (by (with_reducible repeat (first | refine zG ?_ _ | refine zH ?_ | refine zD ?_ _)); refine blk_far ?_ NB302_304.out _; (with_reducible repeat (first | refine zG ?_ _ | refine zH ?_ | refine zD ?_ _)); refine blk_far ?_ NB302_304.out _; (with_reducible repeat (first | refine zG ?_ _ | refine zH ?_ | refine zD ?_ _)); exact BK302.out) hb); have n5_ := zA (blk_below (g := gb303) (o := .cells #[.int .i64 0, .int .i64 0, .int .i64 0, .int .i64 0, .slice none 0 0, .slice none 0 0, .slice none 0 0, .int .i64 0, .slice none 0 0, .slice none 0 0] 41 (0, 0)) (by (with_reducible repeat (first | refine zG ?_ _ | refine zH ?_ | refine zD ?_ _)); refine blk_far ?_ NB303_304.out _; (with_reducible repeat (first | refine zG ?_ _ | refine zH ?_ | refine zD ?_ _)); refine blk_far ?_ NB303_304.out _; (with_reducible repeat (first | refine zG ?_ _ | refine zH ?_ | refine zD ?_ _)); exact BK303.out) hb); have n6_ := zA (blk_below (g := gb304) (o := .cells #[.int .i64 t305, .int .i64 t306, .int .i64 t307, .int .i64 t308, .slice Ao16 t309.length co16, .slice Ao19 t312.length co19, .slice Ao23 t315.length co23, .int .i64 a0_7, .slice none 0 0, .slice none 0 0] 41 (0, 0)) (by (with_reducible repeat (first | refine zG ?_ _ | refine zH ?_ | refine zD ?_ _)); refine blk_put (cs := #[.int .i64 t305, .int .i64 t306, .int .i64 t307, .int .i64 t308, .slice Ao16 t309.length co16, .slice Ao19 t312.length co19, .slice Ao23 t315.length co23, .int .i64 0, .slice none 0 0, .slice none 0 0]) ?_ 7 _ rfl; (with_reducible repeat (first | refine zG ?_ _ | refine zH ?_ | refine zD ?_ _)); refine blk_put (cs := #[.int .i64 t305, .int .i64 t306, .int .i64 t307, .int .i64 t308, .slice Ao16 t309.length co16, .slice Ao19 t312.length co19, .slice none 0 0, .int .i64 0, .slice none 0 0, .slice none 0 0]) ?_ 6 _ rfl; (with_reducible repeat (first | refine zG ?_ _ | refine zH ?_ | refine zD ?_ _)); exact BK304.out) hb); have n7_ := zA (below_step (by repeat (first | (with_reducible first | exact HB.out | apply zC | apply zB | apply zF | refine zE ?_ GE302.out | refine zE ?_ GE303.out | refine zE ?_ GE304.out) | exact HB.out)) hb); clear HO311; clear HO314; clear HO317; clear BK302; clear BK303; clear BK304; clear HB; have HO311 := n0_; have HO314 := n1_; have HO317 := n2_; have HO320 := n3_; have BK302 := n4_; have BK303 := n5_; have BK304 := n6_; have HB := n7_; clear n0_ n1_ n2_ n3_ n4_ n5_ n6_ n7_; (try clear hb); (try clear hb2); (try clear hk); (try clear hi); (try clear ho0); obtain ⟨Ao27, co27, eo27⟩ := Kd.S_slice HO320.out; subst eo27; obtain ⟨hcz28_0, hcz28_1, hcz28_2, hcz28_3, hcz28_4, hcz28_5, hcz28_6, hcz28_7, hcz28_8, hcz28_9⟩ := cz10 BK304; obtain ⟨hfz28_0, hfz28_1, hfz28_2, hfz28_3, hfz28_4, hfz28_5, hfz28_6, hfz28_7, hfz28_8, hfz28_9⟩ := fz10 BK304; obtain ⟨hcz29_0, hcz29_1, hcz29_2, hcz29_3, hcz29_4, hcz29_5, hcz29_6, hcz29_7, hcz29_8, hcz29_9⟩ := cz10 BK302; obtain ⟨hfz29_0, hfz29_1, hfz29_2, hfz29_3, hfz29_4, hfz29_5, hfz29_6, hfz29_7, hfz29_8, hfz29_9⟩ := fz10 BK302) | ((with_reducible refine gate_callee (f := 21) rfl ?_); refine goesL_ (some 25) rfl rfl Tryz.func21 (by kernel_rfl) rfl #[.slice A0_9 l0_9.length c0_9] rfl (by (try simp only [zU, zV, zW]); first | done | rfl | (simp only [zR, zQ]; rfl)) ?_; (with_reducible refine (laws_toByteS.calls k _ _ l0_9 t321 _ ?side1 ?side2 A6.out).mono ?_); (case side1 => exact Kd.C_below HR0_9.out (by repeat (first | (with_reducible first | exact HB.out | apply zC | apply zB | apply zF | refine zE ?_ GE302.out | refine zE ?_ GE303.out | refine zE ?_ GE304.out) | exact HB.out))); (case side2 => exact HC0_9.out); rintro e w30 ⟨v322, rfl, ho0, hb⟩; refine ⟨_, rfl, ?_⟩; have n0_ := zA (Kd.R_below (by (with_reducible repeat (first | apply zN | apply zM | apply zO)); exact (zP (Kd.R_far (p := ⟨gb304, 8, none⟩) (zX HO311.out BK304.out (by decide)) (fun _ hk => hk.2) (.slice Ao27 t318.length co27)) (fun _ h_ => h_.1))) hb); have n1_ := zA (Kd.S_below (by (with_reducible repeat (first | apply zY | apply zZ | apply yA)); exact (yB (yC (p := ⟨gb304, 8, none⟩) (Kd.S_types HO314.out BK304.out (by decide)) (fun _ hk => hk.2) (.slice Ao27 t318.length co27)) (fun _ h_ => h_.1))) hb); have n2_ := zA (Kd.R_below (by (with_reducible repeat (first | apply zN | apply zM | apply zO)); exact (zP (Kd.R_far (p := ⟨gb304, 8, none⟩) (zX HO317.out BK304.out (by decide)) (fun _ hk => hk.2) (.slice Ao27 t318.length co27)) (fun _ h_ => h_.1))) hb); have n3_ := zA (Kd.S_below (by (with_reducible repeat (first | apply zY | apply zZ | apply yA)); exact (yB (yC (p := ⟨gb304, 8, none⟩) (Kd.S_types HO320.out BK304.out (by decide)) (fun _ hk => hk.2) (.slice Ao27 t318.length co27)) (fun _ h_ => h_.1))) hb); have n4_ := zA (Kd.R_lower ho0 (zL (by repeat (first | (with_reducible first | exact HB.out | apply zC | apply zB | apply zF | refine zE ?_ GE302.out | refine zE ?_ GE303.out | refine zE ?_ GE304.out) | exact HB.out)))); have n5_ := zA (blk_below (g := gb302) (o := .cells #[.int .i64 a0_0, .int .i64 a0_1, .int .i64 a0_2, .int .i64 a0_3, .slice A0_4 l0_4.length c0_4, .slice A0_5 l0_5.length c0_5, .slice A0_6 l0_6.length c0_6, .int .i64 a0_7, .slice A0_8 l0_8.length c0_8, .slice A0_9 l0_9.length c0_9] 32 (0, 0)) (by (with_reducible repeat (first | refine zG ?_ _ | refine zH ?_ | refine zD ?_ _)); refine blk_far ?_ NB302_304.out _; (with_reducible repeat (first | refine zG ?_ _ | refine zH ?_ | refine zD ?_ _)); exact BK302.out) hb); have n6_ := zA (blk_below (g := gb303) (o := .cells #[.int .i64 0, .int .i64 0, .int .i64 0, .int .i64 0, .slice none 0 0, .slice none 0 0, .slice none 0 0, .int .i64 0, .slice none 0 0, .slice none 0 0] 41 (0, 0)) (by (with_reducible repeat (first | refine zG ?_ _ | refine zH ?_ | refine zD ?_ _)); refine blk_far ?_ NB303_304.out _; (with_reducible repeat (first | refine zG ?_ _ | refine zH ?_ | refine zD ?_ _)); exact BK303.out) hb); have n7_ := zA (blk_below (g := gb304) (o := .cells #[.int .i64 t305, .int .i64 t306, .int .i64 t307, .int .i64 t308, .slice Ao16 t309.length co16, .slice Ao19 t312.length co19, .slice Ao23 t315.length co23, .int .i64 a0_7, .slice Ao27 t318.length co27, .slice none 0 0] 41 (0, 0)) (by (with_reducible repeat (first | refine zG ?_ _ | refine zH ?_ | refine zD ?_ _)); refine blk_put (cs := #[.int .i64 t305, .int .i64 t306, .int .i64 t307, .int .i64 t308, .slice Ao16 t309.length co16, .slice Ao19 t312.length co19, .slice Ao23 t315.length co23, .int .i64 a0_7, .slice none 0 0, .slice none 0 0]) ?_ 8 _ rfl; (with_reducible repeat (first | refine zG ?_ _ | refine zH ?_ | refine zD ?_ _)); exact BK304.out) hb); have n8_ := zA (below_step (by repeat (first | (with_reducible first | exact HB.out | apply zC | apply zB | apply zF | refine zE ?_ GE302.out | refine zE ?_ GE303.out | refine zE ?_ GE304.out) | exact HB.out)) hb); clear HO311; clear HO314; clear HO317; clear HO320; clear BK302; clear BK303; clear BK304; clear HB; have HO311 := n0_; have HO314 := n1_; have HO317 := n2_; have HO320 := n3_; have HO323 := n4_; have BK302 := n5_; have BK303 := n6_; have BK304 := n7_; have HB := n8_; clear n0_ n1_ n2_ n3_ n4_ n5_ n6_ n7_ n8_; (try clear hb); (try clear hb2); (try clear hk); (try clear hi); (try clear ho0); obtain ⟨Ao31, co31, eo31⟩ := Kd.R_slice HO323.out; subst eo31; obtain ⟨hcz32_0, hcz32_1, hcz32_2, hcz32_3, hcz32_4, hcz32_5, hcz32_6, hcz32_7, hcz32_8, hcz32_9⟩ := cz10 BK304; obtain ⟨hfz32_0, hfz32_1, hfz32_2, hfz32_3, hfz32_4, hfz32_5, hfz32_6, hfz32_7, hfz32_8, hfz32_9⟩ := fz10 BK304; obtain ⟨hcz33_0, hcz33_1, hcz33_2, hcz33_3, hcz33_4, hcz33_5, hcz33_6, hcz33_7, hcz33_8, hcz33_9⟩ := cz10 BK303; obtain ⟨hfz33_0, hfz33_1, hfz33_2, hfz33_3, hfz33_4, hfz33_5, hfz33_6, hfz33_7, hfz33_8, hfz33_9⟩ := fz10 BK303))
 refine bodyPost_ret (results_cell_row rfl _ _ gb303 41 #[.int .i64 t305, .int .i64 t306, .int .i64 t307, .int .i64 t308, .slice Ao16 t309.length co16, .slice Ao19 t312.length co19, .slice Ao23 t315.length co23, .int .i64 a0_7, .slice Ao27 t318.length co27, .slice Ao31 t321.length co31] (0, 0) _ rfl (by (with_reducible repeat (first | refine zG ?_ _ | refine zH ?_ | refine zD ?_ _)); refine blk_put (cs := #[.int .i64 t305, .int .i64 t306, .int .i64 t307, .int .i64 t308, .slice Ao16 t309.length co16, .slice Ao19 t312.length co19, .slice Ao23 t315.length co23, .int .i64 a0_7, .slice Ao27 t318.length co27, .slice none 0 0]) ?_ 9 _ rfl; (with_reducible repeat (first | refine zG ?_ _ | refine zH ?_ | refine zD ?_ _)); refine blk_put (cs := #[.int .i64 t305, .int .i64 t306, .int .i64 t307, .int .i64 t308, .slice Ao16 t309.length co16, .slice Ao19 t312.length co19, .slice Ao23 t315.length co23, .int .i64 a0_7, .slice none 0 0, .slice none 0 0]) ?_ 8 _ rfl; (with_reducible repeat (first | refine zG ?_ _ | refine zH ?_ | refine zD ?_ _)); refine blk_put (cs := #[.int .i64 t305, .int .i64 t306, .int .i64 t307, .int .i64 t308, .slice Ao16 t309.length co16, .slice Ao19 t312.length co19, .slice Ao23 t315.length co23, .int .i64 0, .slice none 0 0, .slice none 0 0]) ?_ 7 _ rfl; (with_reducible repeat (first | refine zG ?_ _ | refine zH ?_ | refine zD ?_ _)); refine blk_put (cs := #[.int .i64 t305, .int .i64 t306, .int .i64 t307, .int .i64 t308, .slice Ao16 t309.length co16, .slice Ao19 t312.length co19, .slice none 0 0, .int .i64 0, .slice none 0 0, .slice none 0 0]) ?_ 6 _ rfl; (with_reducible repeat (first | refine zG ?_ _ | refine zH ?_ | refine zD ?_ _)); refine blk_put (cs := #[.int .i64 t305, .int .i64 t306, .int .i64 t307, .int .i64 t308, .slice Ao16 t309.length co16, .slice none 0 0, .slice none 0 0, .int .i64 0, .slice none 0 0, .slice none 0 0]) ?_ 5 _ rfl; (with_reducible repeat (first | refine zG ?_ _ | refine zH ?_ | refine zD ?_ _)); refine blk_put (cs := #[.int .i64 t305, .int .i64 t306, .int .i64 t307, .int .i64 t308, .slice none 0 0, .slice none 0 0, .slice none 0 0, .int .i64 0, .slice none 0 0, .slice none 0 0]) ?_ 4 _ rfl; (with_reducible repeat (first | refine zG ?_ _ | refine zH ?_ | refine zD ?_ _)); refine blk_put (cs := #[.int .i64 t305, .int .i64 t306, .int .i64 t307, .int .i64 0, .slice none 0 0, .slice none 0 0, .slice none 0 0, .int .i64 0, .slice none 0 0, .slice none 0 0]) ?_ 3 _ rfl; (with_reducible repeat (first | refine zG ?_ _ | refine zH ?_ | refine zD ?_ _)); refine blk_put (cs := #[.int .i64 t305, .int .i64 t306, .int .i64 0, .int .i64 0, .slice none 0 0, .slice none 0 0, .slice none 0 0, .int .i64 0, .slice none 0 0, .slice none 0 0]) ?_ 2 _ rfl; (with_reducible repeat (first | refine zG ?_ _ | refine zH ?_ | refine zD ?_ _)); refine blk_put (cs := #[.int .i64 t305, .int .i64 0, .int .i64 0, .int .i64 0, .slice none 0 0, .slice none 0 0, .slice none 0 0, .int .i64 0, .slice none 0 0, .slice none 0 0]) ?_ 1 _ rfl; (with_reducible repeat (first | refine zG ?_ _ | refine zH ?_ | refine zD ?_ _)); refine blk_put (cs := #[.int .i64 0, .int .i64 0, .int .i64 0, .int .i64 0, .slice none 0 0, .slice none 0 0, .slice none 0 0, .int .i64 0, .slice none 0 0, .slice none 0 0]) ?_ 0 _ rfl; (with_reducible repeat (first | refine zG ?_ _ | refine zH ?_ | refine zD ?_ _)); refine blk_far ?_ NB303_304.out _; (with_reducible repeat (first | refine zG ?_ _ | refine zH ?_ | refine zD ?_ _)); exact BK303.out) Tryz.underlying41 rfl (by kernel_rfl)) rfl ?_
 exact ⟨_, _, _, _, _, by first | rfl | (simp [errW_none, errW_some] <;> rfl) | (simp [*, errW_none, errW_some] <;> rfl), by (with_reducible repeat (first | apply zN | apply zM | apply zO)); exact zP (Kd.R_far (p := ⟨gb303, 9, none⟩) (Kd.R_far (p := ⟨gb303, 8, none⟩) (Kd.R_far (p := ⟨gb303, 7, none⟩) (Kd.R_far (p := ⟨gb303, 6, none⟩) (Kd.R_far (p := ⟨gb303, 5, none⟩) (Kd.R_far (p := ⟨gb303, 4, none⟩) (Kd.R_far (p := ⟨gb303, 3, none⟩) (Kd.R_far (p := ⟨gb303, 2, none⟩) (Kd.R_far (p := ⟨gb303, 1, none⟩) (Kd.R_far (p := ⟨gb303, 0, none⟩) (Kd.R_far (p := ⟨gb304, 9, none⟩) (zX (zX HO311.out BK304.out (by decide)) BK303.out (by decide)) (fun _ hk => hk.1.2) (.slice Ao31 t321.length co31)) (fun _ hk => hk.2) (.int .i64 t305)) (fun _ hk => hk.2) (.int .i64 t306)) (fun _ hk => hk.2) (.int .i64 t307)) (fun _ hk => hk.2) (.int .i64 t308)) (fun _ hk => hk.2) (.slice Ao16 t309.length co16)) (fun _ hk => hk.2) (.slice Ao19 t312.length co19)) (fun _ hk => hk.2) (.slice Ao23 t315.length co23)) (fun _ hk => hk.2) (.int .i64 a0_7)) (fun _ hk => hk.2) (.slice Ao27 t318.length co27)) (fun _ hk => hk.2) (.slice Ao31 t321.length co31)) (fun _ hk => trivial), by (with_reducible repeat (first | apply zY | apply zZ | apply yA)); exact yB (yC (p := ⟨gb303, 9, none⟩) (yC (p := ⟨gb303, 8, none⟩) (yC (p := ⟨gb303, 7, none⟩) (yC (p := ⟨gb303, 6, none⟩) (yC (p := ⟨gb303, 5, none⟩) (yC (p := ⟨gb303, 4, none⟩) (yC (p := ⟨gb303, 3, none⟩) (yC (p := ⟨gb303, 2, none⟩) (yC (p := ⟨gb303, 1, none⟩) (yC (p := ⟨gb303, 0, none⟩) (yC (p := ⟨gb304, 9, none⟩) (Kd.S_types (Kd.S_types HO314.out BK304.out (by decide)) BK303.out (by decide)) (fun _ hk => hk.1.2) (.slice Ao31 t321.length co31)) (fun _ hk => hk.2) (.int .i64 t305)) (fun _ hk => hk.2) (.int .i64 t306)) (fun _ hk => hk.2) (.int .i64 t307)) (fun _ hk => hk.2) (.int .i64 t308)) (fun _ hk => hk.2) (.slice Ao16 t309.length co16)) (fun _ hk => hk.2) (.slice Ao19 t312.length co19)) (fun _ hk => hk.2) (.slice Ao23 t315.length co23)) (fun _ hk => hk.2) (.int .i64 a0_7)) (fun _ hk => hk.2) (.slice Ao27 t318.length co27)) (fun _ hk => hk.2) (.slice Ao31 t321.length co31)) (fun _ hk => trivial), by (with_reducible repeat (first | apply zN | apply zM | apply zO)); exact zP (Kd.R_far (p := ⟨gb303, 9, none⟩) (Kd.R_far (p := ⟨gb303, 8, none⟩) (Kd.R_far (p := ⟨gb303, 7, none⟩) (Kd.R_far (p := ⟨gb303, 6, none⟩) (Kd.R_far (p := ⟨gb303, 5, none⟩) (Kd.R_far (p := ⟨gb303, 4, none⟩) (Kd.R_far (p := ⟨gb303, 3, none⟩) (Kd.R_far (p := ⟨gb303, 2, none⟩) (Kd.R_far (p := ⟨gb303, 1, none⟩) (Kd.R_far (p := ⟨gb303, 0, none⟩) (Kd.R_far (p := ⟨gb304, 9, none⟩) (zX (zX HO317.out BK304.out (by decide)) BK303.out (by decide)) (fun _ hk => hk.1.2) (.slice Ao31 t321.length co31)) (fun _ hk => hk.2) (.int .i64 t305)) (fun _ hk => hk.2) (.int .i64 t306)) (fun _ hk => hk.2) (.int .i64 t307)) (fun _ hk => hk.2) (.int .i64 t308)) (fun _ hk => hk.2) (.slice Ao16 t309.length co16)) (fun _ hk => hk.2) (.slice Ao19 t312.length co19)) (fun _ hk => hk.2) (.slice Ao23 t315.length co23)) (fun _ hk => hk.2) (.int .i64 a0_7)) (fun _ hk => hk.2) (.slice Ao27 t318.length co27)) (fun _ hk => hk.2) (.slice Ao31 t321.length co31)) (fun _ hk => hk.1.1.2), by (with_reducible repeat (first | apply zY | apply zZ | apply yA)); exact yB (yC (p := ⟨gb303, 9, none⟩) (yC (p := ⟨gb303, 8, none⟩) (yC (p := ⟨gb303, 7, none⟩) (yC (p := ⟨gb303, 6, none⟩) (yC (p := ⟨gb303, 5, none⟩) (yC (p := ⟨gb303, 4, none⟩) (yC (p := ⟨gb303, 3, none⟩) (yC (p := ⟨gb303, 2, none⟩) (yC (p := ⟨gb303, 1, none⟩) (yC (p := ⟨gb303, 0, none⟩) (yC (p := ⟨gb304, 9, none⟩) (Kd.S_types (Kd.S_types HO320.out BK304.out (by decide)) BK303.out (by decide)) (fun _ hk => hk.1.2) (.slice Ao31 t321.length co31)) (fun _ hk => hk.2) (.int .i64 t305)) (fun _ hk => hk.2) (.int .i64 t306)) (fun _ hk => hk.2) (.int .i64 t307)) (fun _ hk => hk.2) (.int .i64 t308)) (fun _ hk => hk.2) (.slice Ao16 t309.length co16)) (fun _ hk => hk.2) (.slice Ao19 t312.length co19)) (fun _ hk => hk.2) (.slice Ao23 t315.length co23)) (fun _ hk => hk.2) (.int .i64 a0_7)) (fun _ hk => hk.2) (.slice Ao27 t318.length co27)) (fun _ hk => hk.2) (.slice Ao31 t321.length co31)) (fun _ hk => trivial), by (with_reducible repeat (first | apply zN | apply zM | apply zO)); exact zP (Kd.R_far (p := ⟨gb303, 9, none⟩) (Kd.R_far (p := ⟨gb303, 8, none⟩) (Kd.R_far (p := ⟨gb303, 7, none⟩) (Kd.R_far (p := ⟨gb303, 6, none⟩) (Kd.R_far (p := ⟨gb303, 5, none⟩) (Kd.R_far (p := ⟨gb303, 4, none⟩) (Kd.R_far (p := ⟨gb303, 3, none⟩) (Kd.R_far (p := ⟨gb303, 2, none⟩) (Kd.R_far (p := ⟨gb303, 1, none⟩) (Kd.R_far (p := ⟨gb303, 0, none⟩) (Kd.R_far (p := ⟨gb304, 9, none⟩) (zX (zX HO323.out BK304.out (by decide)) BK303.out (by decide)) (fun _ hk => hk.1.2) (.slice Ao31 t321.length co31)) (fun _ hk => hk.2) (.int .i64 t305)) (fun _ hk => hk.2) (.int .i64 t306)) (fun _ hk => hk.2) (.int .i64 t307)) (fun _ hk => hk.2) (.int .i64 t308)) (fun _ hk => hk.2) (.slice Ao16 t309.length co16)) (fun _ hk => hk.2) (.slice Ao19 t312.length co19)) (fun _ hk => hk.2) (.slice Ao23 t315.length co23)) (fun _ hk => hk.2) (.int .i64 a0_7)) (fun _ hk => hk.2) (.slice Ao27 t318.length co27)) (fun _ hk => hk.2) (.slice Ao31 t321.length co31)) (fun _ hk => trivial), by repeat (first | (with_reducible first | exact HB.out | apply zC | apply zB | apply zF | refine zE ?_ GE302.out | refine zE ?_ GE303.out | refine zE ?_ GE304.out) | exact HB.out)⟩
end Go.Proofs.YtilimpjcdeeaiaaGreat.G


namespace Go.Proofs.YtilimpjcdeeaiaaGreat.G
open Go.RowKit Go.Proofs.YtilimpjcdeeaiaaGreatW.PrintWords Go.Proofs.YtilimpjcdeeaiaaGreatW.PrintLast Go.Proofs.YtilimpjcdeeaiaaGreatW.PrintMore
attribute [local go_sem] max2_int min2_int max_two min_two max_three min_three max_four min_four   -- for this text's walks alone
def impl_within.f (a0 : Int) (a1 : Int) (a2 : Int) : Option (Bool) := if a0 ≥ a1 then (some (decide (a0 ≤ a2))) else (some false)
set_option maxHeartbeats 8000000 in
set_option maxRecDepth 100000 in
theorem impl_within.calls (a0 : Int) (a1 : Int) (a2 : Int) (r : Bool) (w : World) (h : impl_within.f a0 a1 a2 = some r) :
  Calls Tryz.prog 49 #[.int .i64 a0, .int .i64 a1, .int .i64 a2] w fun e w' => e = .returned (.bool r) ∧ Drawn0 w w' := by
 have H : (if a0 ≥ a1 then (some (decide (a0 ≤ a2))) else (some false)) = some r := h
 clear h
 by_cases c4 : a0 ≥ a1
 ·rw [if_pos c4] at H
  have c4b0 := zT c4
  clear c4
  obtain rfl := Option.some.inj H
  go_enter Tryz.func49, Tryz.ntmps49
  go_wp2
  go_ret
  exact ⟨by first | rfl | (simp; done) | (simp [*]; done), by repeat (first | exact Drawn0.refl _ | apply Drawn0.step)⟩
 rw [if_neg c4] at H
 have c4b0 := decide_eq_false c4
 clear c4
 obtain rfl := Option.some.inj H
 go_enter Tryz.func49, Tryz.ntmps49
 go_wp2
 go_ret
 exact ⟨by first | rfl | (simp; done) | (simp [*]; done), by repeat (first | exact Drawn0.refl _ | apply Drawn0.step)⟩
theorem impl_within.val (x lo hi : Int) : impl_within.f x lo hi = some (decide (lo ≤ x) && decide (x ≤ hi)) := by
 unfold impl_within.f
 by_cases h1 : x ≥ lo
 ·rw [if_pos h1]; simp [ge_iff_le.mp h1]
 rw [if_neg h1]; have : ¬ lo ≤ x := h1; simp [this]
end Go.Proofs.YtilimpjcdeeaiaaGreat.G


namespace Go.Proofs.YtilimpjcdeeaiaaGreat.G
open Go.RowKit Go.Proofs.YtilimpjcdeeaiaaGreatW.PrintWords Go.Proofs.YtilimpjcdeeaiaaGreatW.PrintLast Go.Proofs.YtilimpjcdeeaiaaGreatW.PrintMore
attribute [local go_sem] max2_int min2_int max_two min_two max_three min_three max_four min_four   -- for this text's walks alone
def impl_allWithin.l0 : Nat → Int → Int → List Int → Int → Int → Option (Bool)
 | 0, _, _, _, _, _ => none
 | k + 1, x1, x2, x9, x10, x11 => if x11 < x10 then (if 0 ≤ x11 then (if x11 < (x9.length : Int) then ((impl_within.f (rd x9 x11) x1 x2).bind fun t325 => (if t325 = true then (impl_allWithin.l0 k x1 x2 x9 x10 (wrap64 (x11 + 1))) else (some false))) else (none)) else (none)) else (some true)
def impl_allWithin.f (k : Nat) (l0 : List Int) (a1 : Int) (a2 : Int) : Option (Bool) := impl_allWithin.l0 k a1 a2 l0 (l0.length : Int) 0
theorem impl_allWithin.mono_l : ∀ k, (∀ y0 y1 y2 y3 y4, LeO (impl_allWithin.l0 k y0 y1 y2 y3 y4) (impl_allWithin.l0 (k + 1) y0 y1 y2 y3 y4))
 | 0 => fun _ _ _ _ _ r h => by simp [impl_allWithin.l0] at h
 | k + 1 => by
  have ih0 := impl_allWithin.mono_l k
  ·intro y0 y1 y2 y3 y4
   unfold impl_allWithin.l0
   repeat' first
   | (with_reducible exact ih0 _ _ _ _ _)
   | (with_reducible exact LeO.refl _)
   | (with_reducible exact LeO.none _)
   | (with_reducible refine LeO.ite ?_ ?_)
   | (with_reducible refine LeO.bind ?_ (fun _ => ?_))
theorem impl_allWithin.mono : ∀ a0 a1 a2 k, LeO (impl_allWithin.f k a0 a1 a2) (impl_allWithin.f (k + 1) a0 a1 a2) := by
 intro a0 a1 a2 k
 have ih0 := impl_allWithin.mono_l k
 unfold impl_allWithin.f
 repeat' first
   | (with_reducible exact ih0 _ _ _ _ _)
   | (with_reducible exact LeO.refl _)
   | (with_reducible exact LeO.none _)
   | (with_reducible refine LeO.ite ?_ ?_)
   | (with_reducible refine LeO.bind ?_ (fun _ => ?_))
set_option maxHeartbeats 8000000 in
set_option maxRecDepth 100000 in
theorem impl_allWithin.calls (k : Nat) (A0 : Option Addr) (c0 : Nat) (l0 : List Int) (a1 : Int) (a2 : Int) (r : Bool) (w : World) (hr0 : Kd.C (Kd.int .i64) w A0 l0.length l0) (hc0 : l0.length ≤ c0) (h : impl_allWithin.f k l0 a1 a2 = some r) :
  Calls Tryz.prog 65 #[.slice A0 l0.length c0, .int .i64 a1, .int .i64 a2] w fun e w' => e = .returned (.bool r) ∧ Drawn0 w w' := by
 have HR0 := zA hr0
 have HC0 := zA hc0
 clear hr0 hc0
 have H : (impl_allWithin.l0 k a1 a2 l0 (l0.length : Int) 0) = some r := h
 clear h
 have H' := zA H
 clear H
 go_enter Tryz.func65, Tryz.ntmps65
 go_wp2
 go_loopg [11] k (fun kq v11 w' => ∃ (x11_1 : Int), v11 = .int .i64 x11_1 ∧ Aside0 (impl_allWithin.l0 kq a1 a2 l0 (l0.length : Int) x11_1 = some r) ∧ Aside0 (kq ≤ k) ∧ Drawn0 w w')
 case atStart => exact ⟨(0), rfl, H', ⟨Nat.le_refl _⟩, by repeat (first | exact Drawn0.refl _ | apply Drawn0.step)⟩
 case round =>
  clear H'
  obtain ⟨x11_1, rfl, HA, HK1, ⟨m1, rfl⟩⟩ := hrel
  cases gk with
  | zero => exact absurd HA.out (by simp [impl_allWithin.l0])
  | succ k1 =>
   have H := HA.out
   clear HA
   simp only [impl_allWithin.l0] at H
   by_cases c4 : x11_1 < (l0.length : Int)
   rotate_left
   ·rw [if_neg c4] at H
    have c4b0 := decide_eq_false c4
    clear c4
    obtain rfl := Option.some.inj H
    go_wp2
    go_ret
    exact ⟨by first | rfl | (simp; done) | (simp [*]; done), by repeat (first | exact Drawn0.refl _ | apply Drawn0.step)⟩
   rw [if_pos c4] at H
   have c4b0 := zT c4
   clear c4
   by_cases c5 : 0 ≤ x11_1
   rotate_left
   ·rw [if_neg c5] at H
    exact absurd H (by simp)
   rw [if_pos c5] at H
   have c5b0 := zT c5
   clear c5
   by_cases c6 : x11_1 < (l0.length : Int)
   rotate_left
   ·rw [if_neg c6] at H
    exact absurd H (by simp)
   rw [if_pos c6] at H
   have c6b0 := zT c6
   clear c6
   replace H := Option.bind_eq_some_iff.mp H
   obtain ⟨t325, A70, H⟩ := H
   try dsimp only at H
   have A7 := zA A70
   clear A70
   have HF8 := zA H
   clear H
   have p324 : 0 ≤ (x11_1 : Int) := zI (by first | (with_reducible assumption) | assumption)
   have q324 : x11_1 < (l0.length : Int) := zI (by first | (with_reducible assumption) | assumption)
   obtain ⟨ad324, e324, hx324_0⟩ := Kd.at_int HR0.out x11_1 p324 q324
   cases e324
   replace p324 := eq_true p324
   replace q324 := eq_true q324
   go_upto_if 19 with (first | ((with_reducible refine gate_callee (f := 49) rfl ?_); refine goesL_ (some 18) rfl rfl Tryz.func49 (by kernel_rfl) rfl #[.int .i64 (rd l0 x11_1), .int .i64 a1, .int .i64 a2] rfl (by (try simp only [zU, zV, zW]); first | done | rfl | (simp only [zR, zQ]; rfl)) ?_; (with_reducible refine (impl_within.calls (rd l0 x11_1) a1 a2 t325 _ A7.out).mono ?_); rintro e w' ⟨rfl, ⟨nd, rfl⟩⟩; refine ⟨_, rfl, ?_⟩))
   have H := HF8.out
   clear HF8
   by_cases c9 : t325 = true
   rotate_left
   ·replace c9 := Bool.eq_false_iff.mpr c9
    subst c9
    rw [if_neg (show ¬ (false = true) by decide)] at H
    obtain rfl := Option.some.inj H
    go_wp2
    go_ret
    exact ⟨by first | rfl | (simp; done) | (simp [*]; done), by repeat (first | exact Drawn0.refl _ | apply Drawn0.step)⟩
   subst c9
   rw [if_pos rfl] at H
   have H' := zA H
   clear H
   go_wp2
   go_roundg k1
   case measure => have := HK1.out; omega
   case rel => exact ⟨(wrap64 (x11_1 + 1)), rfl, H', ⟨by have := HK1.out; omega⟩, by repeat (first | exact Drawn0.refl _ | apply Drawn0.step)⟩
theorem impl_allWithin.go (lo hi : Int) (l : List Int) (hm : l.length < 4611686018427387904) (d : Nat) : ∀ (i : Nat) (k : Nat), l.length - i = d → i ≤ l.length → d < k →
  impl_allWithin.l0 k lo hi l (l.length : Int) (i : Int) = some (allW lo hi (l.drop i)) := by
 induction d with
 | zero =>
  intro i k hd hi' hk
  obtain ⟨k, rfl⟩ : ∃ m, k = m + 1 := ⟨k - 1, by omega⟩
  obtain rfl : i = l.length := by omega
  simp only [impl_allWithin.l0]
  rw [if_neg (by omega)]
  simp [allW]
 | succ d ih =>
  intro i k hd hi' hk
  obtain ⟨k, rfl⟩ : ∃ m, k = m + 1 := ⟨k - 1, by omega⟩
  have hlt : i < l.length := by omega
  simp only [impl_allWithin.l0]
  rw [if_pos (by omega), if_pos (by omega), if_pos (by omega)]
  have hrd : rd l (i : Int) = l[i] := by simp [rd, hlt]
  have hda : allW lo hi (l.drop i) = (decide (lo ≤ l[i]) && decide (l[i] ≤ hi) && allW lo hi (l.drop (i + 1))) := by
   unfold allW; rw [List.drop_eq_getElem_cons hlt, List.all_cons]
  have hw : wrap64 ((i : Int) + 1) = ((i + 1 : Nat) : Int) := by unfold wrap64; omega
  rw [hda, hrd, hw, ih (i + 1) k (by omega) (by omega) (by omega)]
  unfold impl_within.f
  by_cases h1 : l[i] ≥ lo
  rotate_left
  ·rw [if_neg h1]
   have : ¬ lo ≤ l[i] := h1
   simp [this]
  rw [if_pos h1]
  by_cases h2 : l[i] ≤ hi
  rotate_left
  ·simp [h2]
  simp [h2, ge_iff_le.mp h1]
theorem impl_allWithin.ev (lo hi : Int) (l : List Int) (hm : l.length < 4611686018427387904) : ∃ k, impl_allWithin.f k l lo hi = some (allW lo hi l) :=
 ⟨l.length + 1, by unfold impl_allWithin.f; exact impl_allWithin.go lo hi l hm l.length 0 _ (by omega) (by omega) (by omega)⟩
end Go.Proofs.YtilimpjcdeeaiaaGreat.G


namespace Go.Proofs.YtilimpjcdeeaiaaGreat.G
open Go.RowKit Go.Proofs.YtilimpjcdeeaiaaGreatW.PrintWords Go.Proofs.YtilimpjcdeeaiaaGreatW.PrintLast Go.Proofs.YtilimpjcdeeaiaaGreatW.PrintMore
attribute [local go_sem] max2_int min2_int max_two min_two max_three min_three max_four min_four   -- for this text's walks alone
def impl_TableOk.f (k : Nat) (l0 : List Int) : Option (Bool) := if (l0.length : Int) = 64 then ((impl_allWithin.f k l0 1 1023).bind fun t326 => (some t326)) else (some false)
set_option maxHeartbeats 8000000 in
set_option maxRecDepth 100000 in
theorem impl_TableOk.calls (k : Nat) (A0 : Option Addr) (c0 : Nat) (l0 : List Int) (r : Bool) (w : World) (hr0 : Kd.C (Kd.int .i64) w A0 l0.length l0) (hc0 : l0.length ≤ c0) (h : impl_TableOk.f k l0 = some r) :
  Calls Tryz.prog 47 #[.slice A0 l0.length c0] w fun e w' => e = .returned (.bool r) ∧ Drawn0 w w' := by
 have HR0 := zA hr0
 have HC0 := zA hc0
 clear hr0 hc0
 have H : (if (l0.length : Int) = 64 then ((impl_allWithin.f k l0 1 1023).bind fun t326 => (some t326)) else (some false)) = some r := h
 clear h
 by_cases c2 : (l0.length : Int) = 64
 rotate_left
 ·rw [if_neg c2] at H
  have c2b0 : ((l0.length : Int) == 64) = false := beq_eq_false_iff_ne.mpr c2
  have c2b1 : ((l0.length : Int) != 64) = true := bne_iff_ne.mpr c2
  obtain rfl := Option.some.inj H
  go_enter Tryz.func47, Tryz.ntmps47
  go_wp2
  go_ret
  exact ⟨by first | rfl | (simp; done) | (simp [*]; done), by repeat (first | exact Drawn0.refl _ | apply Drawn0.step)⟩
 rw [if_pos c2] at H
 have c2b0 : ((l0.length : Int) == 64) = true := beq_iff_eq.mpr c2
 have c2b1 : ((l0.length : Int) != 64) = false := bne_eq_false_iff_eq.mpr c2
 clear c2
 replace H := Option.bind_eq_some_iff.mp H
 obtain ⟨t326, A30, H⟩ := H
 try dsimp only at H
 have A3 := zA A30
 clear A30
 obtain rfl := Option.some.inj H
 go_enter Tryz.func47, Tryz.ntmps47
 go_wp2_with (first | (go_at_call 65; (with_reducible refine (impl_allWithin.calls k _ _ l0 1 1023 t326 _ ?side1 ?side2 A3.out).mono ?_); (case side1 => repeat (first | exact HR0.out | (with_reducible refine yH ?_ _) | (with_reducible refine yF ?_ _) | (with_reducible refine yG ?_))); (case side2 => exact HC0.out); rintro e w' ⟨rfl, ⟨nd, rfl⟩⟩))
 go_ret
 exact ⟨by first | rfl | (simp; done) | (simp [*]; done), by repeat (first | exact Drawn0.refl _ | apply Drawn0.step)⟩
theorem impl_TableOk.ev (q : List Int) : Ev (fun k => impl_TableOk.f k q) (tabM q) := by
 unfold impl_TableOk.f tabM
 by_cases e : q.length = 64
 rotate_left
 ·rw [decide_eq_false e]
  exact Ev.ng (by omega) (Ev.now _)
 obtain ⟨k, hk⟩ := impl_allWithin.ev 1 1023 q (by omega)
 rw [zT e, Bool.true_and]
 exact Ev.ip (by omega) (Ev.bind (Ev.of (impl_allWithin.mono q 1 1023) hk) (Ev.now _))
end Go.Proofs.YtilimpjcdeeaiaaGreat.G


namespace Go.Proofs.YtilimpjcdeeaiaaGreat.G
open Go.RowKit Go.Proofs.YtilimpjcdeeaiaaGreatW.PrintWords Go.Proofs.YtilimpjcdeeaiaaGreatW.PrintLast Go.Proofs.YtilimpjcdeeaiaaGreatW.PrintMore
attribute [local go_sem] max2_int min2_int max_two min_two max_three min_three max_four min_four   -- for this text's walks alone
def CompP (w : World) (fn : Nat) (caps : Array Value) (D : S53 → Prop) (P : S53 → Bool) : Prop :=
 (∀ (args : Array Value) (W1 : World), Sem.run Tryz.prog (callFunc fn args) W1 = Result.ok (Next.enter fn args) W1) ∧
 ∀ (x : S53) (W1 : World), Below w.heap.size w W1 → D x → Calls Tryz.prog fn (#[.agg #[.int .i64 x.f0, .int .i64 x.f1, .int .i64 x.f2, .int .i64 x.f3]] ++ caps) W1 fun e w' => e = .returned (.bool (P x)) ∧ Below W1.heap.size W1 w'
theorem CompP.at_ {w W : World} {fn : Nat} {caps : Array Value} {D : S53 → Prop} {P : S53 → Bool} (h : CompP w fn caps D P) (hb : Below w.heap.size w W) : CompP W fn caps D P :=
 ⟨h.1, fun x W1 hW => h.2 x W1 (Below.trans hb (Below.mono hW hb.size))⟩
set_option maxRecDepth 100000 in
set_option maxHeartbeats 4000000 in
theorem idx_CompP (fn : Nat) (caps : Array Value) (D : S53 → Prop) (P : S53 → Bool) (A0 : Option Addr) (c0 : Nat) (l0 : List S53) (w : World) (hS : CompP w fn caps D P) (hD : ∀ x ∈ l0, D x) (hr0 : Kd.C k53 w A0 l0.length l0) (hc0 : l0.length ≤ c0) (hm : l0.length ≤ 100000000) :
  Calls Tryz.prog 91 #[.slice A0 l0.length c0, .func (.func fn) #[] caps] w fun e w' => ∃ r : Int, e = .returned (.int .i64 r) ∧ (0 ≤ r ↔ l0.any P = true) ∧ Below w.heap.size w w' := by
 have HR0 := zA hr0
 have HC0 := zA hc0
 have HS := zA hS
 have HD := zA hD
 clear hr0 hc0 hS hD
 have HB0 := zA (Below.refl w.heap.size w)
 go_enter Tryz.func91, Tryz.ntmps91
 go_wp2
 go_loopw [8] (fun i w' => ∃ k : Nat, i = .int .i64 k ∧ k ≤ l0.length ∧ Aside0 ((l0.take k).any P = false) ∧ Aside0 (Below w.heap.size w w')) (fun i w' => l0.length - (intOf i).toNat)
 case atStart => exact ⟨0, rfl, by omega, ⟨by simp⟩, by first | exact HB0 | exact ⟨by repeat (first | exact HB0.out | apply zB | apply below_drew)⟩⟩
 case round =>
  clear HB0
  obtain ⟨k, rfl, hk, HA, HB⟩ := hrel
  by_cases hlt : k < l0.length
  ·obtain ⟨ad, e1, hx0, hx1, hx2, hx3⟩ := at_T53 (Kd.C_below HR0.out HB.out) (k : Int) (by omega) (by omega)
   cases e1
   rw [Int.toNat_natCast] at hx0 hx1 hx2 hx3
   skip
   have hgl : rd_T53 l0 k = l0[k] := by simp [rd_T53, hlt]
   cases hp : P (rd_T53 l0 k)
   all_goals
    have HP := zA hp
    have HG := zA hgl
    clear hp hgl
    go_wp2_with fail
    rw [HS.out.1]
    simp only [Oper.upon_enter]
    have HBW := zA (show Below w.heap.size w _ from by first | exact HB.out | (repeat (first | exact HB.out | apply zB | apply below_drew)))
    refine (HS.out.2 (rd_T53 l0 k) wr HB.out (by rw [HG.out]; exact HD.out _ (List.getElem_mem _)) ).mono ?_
    rw [HP.out]
    rintro e w' ⟨rfl, hb2⟩
    have HB2 := zA (Below.trans HB.out (Below.mono hb2 HB.out.size))
    clear hb2
   ·go_wp2
    go_roundw
    case rel => exact ⟨k + 1, by go_num, by omega, ⟨by rw [List.take_succ_eq_append_getElem hlt, List.any_append, HA.out]; simp [← HG.out, HP.out]⟩, by first | exact HB2 | exact ⟨by repeat (first | exact HB2.out | apply zB | apply below_drew)⟩⟩
    case measure => simp [intOf]; omega
   ·go_wp2
    go_ret
    exact ⟨_, rfl, by simp only [Int.natCast_nonneg, true_iff]; rw [List.any_eq_true]; exact ⟨l0[k], List.getElem_mem _, by rw [← HG.out, HP.out]⟩, by repeat (first | exact HB2.out | apply zB | apply below_drew)⟩
  ·obtain rfl : k = l0.length := by omega
   go_wp2
   go_ret
   exact ⟨_, rfl, by have := HA.out; rw [List.take_length] at this; simp [this], by repeat (first | exact HB.out | apply zB | apply below_drew)⟩
set_option maxRecDepth 100000 in
set_option maxHeartbeats 4000000 in
theorem cont_CompP (fn : Nat) (caps : Array Value) (D : S53 → Prop) (P : S53 → Bool) (A0 : Option Addr) (c0 : Nat) (l0 : List S53) (w : World) (hS : CompP w fn caps D P) (hD : ∀ x ∈ l0, D x) (hr0 : Kd.C k53 w A0 l0.length l0) (hc0 : l0.length ≤ c0) (hm : l0.length ≤ 100000000) :
  Calls Tryz.prog 76 #[.slice A0 l0.length c0, .func (.func fn) #[] caps] w fun e w' => e = .returned (.bool (l0.any P)) ∧ Below w.heap.size w w' := by
 have HR0 := zA hr0
 have HC0 := zA hc0
 have HS := zA hS
 have HD := zA hD
 clear hr0 hc0 hS hD
 cases ha : l0.any P
 all_goals
  have HAA := zA ha
  clear ha
  go_enter Tryz.func76, Tryz.ntmps76
  go_wp2_with (first | (go_at_call 91; (with_reducible refine (idx_CompP fn caps D P _ _ l0 _ HS.out HD.out ?side1 ?side2 hm).mono ?_); (case side1 => exact HR0.out); (case side2 => exact HC0.out); rintro e w' ⟨r, rfl, hq, hb⟩; have HB := zA hb; clear hb; rw [HAA.out] at hq; (first | have hq2 : 0 ≤ r := hq.2 rfl | have hq2 : ¬ 0 ≤ r := fun z => absurd (hq.1 z) (by decide)); clear hq))
  go_ret
  exact ⟨by simp [hq2], by repeat (first | exact HB.out | apply zB | apply below_drew)⟩
theorem cont_CompP.n (fn : Nat) (caps : Array Value) (D : S53 → Prop) (P : S53 → Bool) (A0 : Option Addr) (n c0 : Nat) (l0 : List S53) (w : World) (hn : l0.length = n) (hS : CompP w fn caps D P) (hD : ∀ x ∈ l0, D x) (hr0 : Kd.C k53 w A0 n l0) (hc0 : n ≤ c0) (hm : n ≤ 100000000) :
  Calls Tryz.prog 76 #[.slice A0 n c0, .func (.func fn) #[] caps] w fun e w' => e = .returned (.bool (l0.any P)) ∧ Below w.heap.size w w' := by
 subst hn
 exact cont_CompP fn caps D P A0 c0 l0 w hS hD hr0 hc0 hm
end Go.Proofs.YtilimpjcdeeaiaaGreat.G


namespace Go.Proofs.YtilimpjcdeeaiaaGreat.G
open Go.RowKit Go.Proofs.YtilimpjcdeeaiaaGreatW.PrintWords Go.Proofs.YtilimpjcdeeaiaaGreatW.PrintLast Go.Proofs.YtilimpjcdeeaiaaGreatW.PrintMore
attribute [local go_sem] max2_int min2_int max_two min_two max_three min_three max_four min_four   -- for this text's walks alone
def impl_FrameOk.f (a0_0 a0_1 a0_2 a0_3 : Int) (l0_4 : List (S53)) : Option Bool := some (frameOkM a0_0 a0_1 a0_2 a0_3 l0_4)
theorem cut_comp (A : Option Addr) (c : Nat) (l : List SC) (k : Nat) (hk : k ≤ l.length) (hc : l.length ≤ c) :
  ∀ W : World, (Instr.slice 35 (.slice A l.length c) none (some (.int .i64 (k : Int))) none).run Tryz.prog W = .ok (.slice A k c) W := by
 intro W
 have hu : Tryz.prog.underlying 35 = some (.slice (Tryz.prog.elem 35)) := by kernel_rfl
 have ha : (A.map fun x => x.add 0) = A := by cases A <;> simp [Addr.add]
 have hel : Tryz.prog.elem 35 = 53 := by kernel_rfl
 obtain ⟨i, hi, _, hsz, _⟩ := info_parts info53
 rw [run_slice_h W _ A l.length c hu .i64 (k : Int) (by omega) (by omega), hel]
 simp [sizeOf, typeInfo, hi, hsz, sliced, Result.andThen, ha]
def FrRel (w : World) (a0_0 a0_1 a0_2 a0_3 : Int) (A0_4 : Option Addr) (c0_4 : Nat) (l0_4 : List (S53)) (r : Bool) (v3 v50 : Value) (w' : World) : Prop :=
 ∃ (k : Nat) (s : Int), v3 = .int .i64 s ∧ v50 = .int .i64 k ∧ k ≤ l0_4.length ∧ 0 ≤ s ∧ s ≤ 16 * k ∧ Aside0 (compsGo l0_4 k (l0_4.length - k) s = r) ∧ Aside0 (w'.heap[w.heap.size]? = some (.cells #[.int .i64 a0_0, .int .i64 a0_1, .int .i64 a0_2, .int .i64 a0_3, .slice A0_4 l0_4.length c0_4] 37 (0, 0))) ∧ Aside0 (Below w.heap.size w w')
set_option maxRecDepth 100000 in
set_option maxHeartbeats 4000000 in
theorem frame_id (c : SC) (w : World) (g : Nat) (hg : w.heap[g]? = some (.cells #[.int .i64 c.f0, .int .i64 c.f1, .int .i64 c.f2, .int .i64 c.f3] 53 (0, 0))) : CompP w 77 #[.pointer (some ⟨g, 0, none⟩)] (fun _ => True) (fun y => decide (y.f0 = c.f0)) := by
 refine ⟨fun args W => by go_simp, fun x W1 hb _ => ?_⟩
 have hg2 : W1.heap[g]? = some (.cells #[.int .i64 c.f0, .int .i64 c.f1, .int .i64 c.f2, .int .i64 c.f3] 53 (0, 0)) := (hb.block g (blk_lt hg)).trans hg
 have hgl : g < W1.heap.size := blk_lt hg2
 have hc2 := zK hg2 0
 simp at hc2
 clear hg hg2 hb
 show Calls Tryz.prog 77 #[.agg #[.int .i64 x.f0, .int .i64 x.f1, .int .i64 x.f2, .int .i64 x.f3], .pointer (some ⟨g, 0, none⟩)] W1 _
 obtain ⟨x0, hx0⟩ : ∃ z, z = x.f0 := ⟨_, rfl⟩
 obtain ⟨c0, hc0⟩ : ∃ z, z = c.f0 := ⟨_, rfl⟩
 rw [← hx0, ← hc0]
 rw [← hc0] at hc2
 have hc3 := (World.cell?_alloc_lt W1 (Obj.cells #[.int .i64 x0, .int .i64 x.f1, .int .i64 x.f2, .int .i64 x.f3] 53) ⟨g, 0, none⟩ hgl).trans hc2
 go_enter Tryz.func77, Tryz.ntmps77
 go_wp2
 go_ret
 exact ⟨by first | rfl | (rw [hc0]; rfl), by repeat (first | exact Below.refl _ _ | apply zC | apply zB | apply below_drew)⟩
set_option maxRecDepth 100000 in
set_option maxHeartbeats 4000000 in
theorem impl_FrameOk.calls (a0_0 a0_1 a0_2 a0_3 : Int) (A0_4 : Option Addr) (c0_4 : Nat) (l0_4 : List (S53)) (r : Bool) (w : World) (hr0_4 : Kd.C k53 w A0_4 l0_4.length l0_4) (hc0_4 : l0_4.length ≤ c0_4) (h : impl_FrameOk.f a0_0 a0_1 a0_2 a0_3 l0_4 = some r) :
  Calls Tryz.prog 66 #[.agg #[.int .i64 a0_0, .int .i64 a0_1, .int .i64 a0_2, .int .i64 a0_3, .slice A0_4 l0_4.length c0_4]] w fun e w' => e = .returned (.bool r) ∧ Below w.heap.size w w' := by
 have HM := zA (Option.some.inj h)
 have HR := zA hr0_4
 have HC := zA hc0_4
 clear h hr0_4 hc0_4
 go_enter Tryz.func66, Tryz.ntmps66
 go_upto_region 1 with (fail)
 have k1 := blk_new w (Obj.cells #[.int .i64 a0_0, .int .i64 a0_1, .int .i64 a0_2, .int .i64 a0_3, .slice A0_4 l0_4.length c0_4] 37)
 have HB := zA (show Below w.heap.size w (w.alloc (Obj.cells #[.int .i64 a0_0, .int .i64 a0_1, .int .i64 a0_2, .int .i64 a0_3, .slice A0_4 l0_4.length c0_4] 37)) from zC (Below.refl _ _) _)
 generalize w.alloc (Obj.cells #[.int .i64 a0_0, .int .i64 a0_1, .int .i64 a0_2, .int .i64 a0_3, .slice A0_4 l0_4.length c0_4] 37) = W1 at k1 HB ⊢
 have K1 := zA k1
 have q0 := zK k1 0
 have q1 := zK k1 1
 have q2 := zK k1 2
 have q3 := zK k1 3
 have q4 := zK k1 4
 simp at q0 q1 q2 q3 q4
 clear k1
 go_cut [46] (fun v46 wc => v46 = .bool (!frameHead a0_0 a0_1 a0_2 a0_3 (l0_4.length : Int)) ∧ Aside0 (wc.heap[w.heap.size]? = some (.cells #[.int .i64 a0_0, .int .i64 a0_1, .int .i64 a0_2, .int .i64 a0_3, .slice A0_4 l0_4.length c0_4] 37 (0, 0))) ∧ Aside0 (Below w.heap.size w wc))
 case first =>
  clear HM
  by_cases h8 : a0_0 = 8
  ·have b8 : (a0_0 != 8) = false := bne_eq_false_iff_eq.mpr h8
   have EP := zA (show (decide (a0_0 = 8) || decide (a0_0 = 12)) = true by rw [zT h8, Bool.true_or])
   clear h8
   cases h1 : (decide (1 ≤ a0_1) && decide (a0_1 ≤ 256))
   ·have E1 := zA h1
    have A1 := zA ((impl_within.val a0_1 1 256).trans (congrArg some h1))
    clear h1
    go_wp2_with (first | (go_at_call 49; (with_reducible refine (impl_within.calls _ _ _ _ _ A1.out).mono ?_); rintro e w' ⟨rfl, ⟨nd, rfl⟩⟩))
    go_meet
    case rel => exact ⟨by rw [show frameHead a0_0 a0_1 a0_2 a0_3 (l0_4.length : Int) = false from by unfold frameHead headOk; simp only [EP.out, E1.out]; try simp]; rfl, by first | exact K1 | exact ⟨by repeat (first | exact K1.out | apply zG | apply zH)⟩, by first | exact HB | exact ⟨by repeat (first | exact HB.out | apply zB | apply below_drew)⟩⟩
   ·have E1 := zA h1
    have A1 := zA ((impl_within.val a0_1 1 256).trans (congrArg some h1))
    have e1 := h1
    clear h1
    cases h2 : (decide (1 ≤ a0_2) && decide (a0_2 ≤ 256))
    ·have E2 := zA h2
     have A2 := zA ((impl_within.val a0_2 1 256).trans (congrArg some h2))
     clear h2
     go_wp2_with (first | (go_at_call 49; (with_reducible refine (impl_within.calls _ _ _ _ _ A1.out).mono ?_); rintro e w' ⟨rfl, ⟨nd, rfl⟩⟩) | (go_at_call 49; (with_reducible refine (impl_within.calls _ _ _ _ _ A2.out).mono ?_); rintro e w' ⟨rfl, ⟨nd, rfl⟩⟩))
     go_meet
     case rel => exact ⟨by rw [show frameHead a0_0 a0_1 a0_2 a0_3 (l0_4.length : Int) = false from by unfold frameHead headOk; simp only [EP.out, E1.out, E2.out]; try simp]; rfl, by first | exact K1 | exact ⟨by repeat (first | exact K1.out | apply zG | apply zH)⟩, by first | exact HB | exact ⟨by repeat (first | exact HB.out | apply zB | apply below_drew)⟩⟩
    ·have E2 := zA h2
     have A2 := zA ((impl_within.val a0_2 1 256).trans (congrArg some h2))
     have e2 := h2
     clear h2
     have hm := mul_256 a0_1 a0_2 (by simp only [Bool.and_eq_true, decide_eq_true_eq] at e1; exact e1.1) (by simp only [Bool.and_eq_true, decide_eq_true_eq] at e1; exact e1.2) (by simp only [Bool.and_eq_true, decide_eq_true_eq] at e2; exact e2.1) (by simp only [Bool.and_eq_true, decide_eq_true_eq] at e2; exact e2.2)
     obtain ⟨m, hm0⟩ : ∃ m, m = a0_1 * a0_2 := ⟨_, rfl⟩
     rw [← hm0] at hm
     have w1 : wrap64 (a0_1 * a0_2) = m := by rw [← hm0]; exact wrap_in _ (by omega) (by omega)
     have w2 : IntKind.i64.wrap (a0_1 * a0_2) = m := (i64_w _).trans w1
     have H0 := zA hm0
     clear hm0 hm
     by_cases h3 : m ≤ 16384
     ·have E3 := zA (show decide (a0_1 * a0_2 ≤ 16384) = true by rw [← H0.out]; exact zT h3)
      have d3 : decide (16384 < m) = false := decide_eq_false (by omega)
      clear h3
      cases h4 : (decide (0 ≤ a0_3) && decide (a0_3 ≤ 255))
      ·have E4 := zA h4
       have A4 := zA ((impl_within.val a0_3 0 255).trans (congrArg some h4))
       clear h4
       go_wp2_with (first | (go_at_call 49; (with_reducible refine (impl_within.calls _ _ _ _ _ A1.out).mono ?_); rintro e w' ⟨rfl, ⟨nd, rfl⟩⟩) | (go_at_call 49; (with_reducible refine (impl_within.calls _ _ _ _ _ A2.out).mono ?_); rintro e w' ⟨rfl, ⟨nd, rfl⟩⟩) | (go_at_call 49; (with_reducible refine (impl_within.calls _ _ _ _ _ A4.out).mono ?_); rintro e w' ⟨rfl, ⟨nd, rfl⟩⟩))
       go_meet
       case rel => exact ⟨by rw [show frameHead a0_0 a0_1 a0_2 a0_3 (l0_4.length : Int) = false from by unfold frameHead headOk; simp only [EP.out, E1.out, E2.out, E3.out, E4.out]; try simp]; rfl, by first | exact K1 | exact ⟨by repeat (first | exact K1.out | apply zG | apply zH)⟩, by first | exact HB | exact ⟨by repeat (first | exact HB.out | apply zB | apply below_drew)⟩⟩
      ·have E4 := zA h4
       have A4 := zA ((impl_within.val a0_3 0 255).trans (congrArg some h4))
       clear h4
       cases h5 : (decide (1 ≤ (l0_4.length : Int)) && decide ((l0_4.length : Int) ≤ 4))
       ·have E5 := zA h5
        have A5 := zA ((impl_within.val (l0_4.length : Int) 1 4).trans (congrArg some h5))
        clear h5
        go_wp2_with (first | (go_at_call 49; (with_reducible refine (impl_within.calls _ _ _ _ _ A1.out).mono ?_); rintro e w' ⟨rfl, ⟨nd, rfl⟩⟩) | (go_at_call 49; (with_reducible refine (impl_within.calls _ _ _ _ _ A2.out).mono ?_); rintro e w' ⟨rfl, ⟨nd, rfl⟩⟩) | (go_at_call 49; (with_reducible refine (impl_within.calls _ _ _ _ _ A4.out).mono ?_); rintro e w' ⟨rfl, ⟨nd, rfl⟩⟩) | (go_at_call 49; (with_reducible refine (impl_within.calls _ _ _ _ _ A5.out).mono ?_); rintro e w' ⟨rfl, ⟨nd, rfl⟩⟩))
        go_meet
        case rel => exact ⟨by rw [show frameHead a0_0 a0_1 a0_2 a0_3 (l0_4.length : Int) = false from by unfold frameHead headOk; simp only [EP.out, E1.out, E2.out, E3.out, E4.out, E5.out]; try simp]; rfl, by first | exact K1 | exact ⟨by repeat (first | exact K1.out | apply zG | apply zH)⟩, by first | exact HB | exact ⟨by repeat (first | exact HB.out | apply zB | apply below_drew)⟩⟩
       ·have E5 := zA h5
        have A5 := zA ((impl_within.val (l0_4.length : Int) 1 4).trans (congrArg some h5))
        clear h5
        go_wp2_with (first | (go_at_call 49; (with_reducible refine (impl_within.calls _ _ _ _ _ A1.out).mono ?_); rintro e w' ⟨rfl, ⟨nd, rfl⟩⟩) | (go_at_call 49; (with_reducible refine (impl_within.calls _ _ _ _ _ A2.out).mono ?_); rintro e w' ⟨rfl, ⟨nd, rfl⟩⟩) | (go_at_call 49; (with_reducible refine (impl_within.calls _ _ _ _ _ A4.out).mono ?_); rintro e w' ⟨rfl, ⟨nd, rfl⟩⟩) | (go_at_call 49; (with_reducible refine (impl_within.calls _ _ _ _ _ A5.out).mono ?_); rintro e w' ⟨rfl, ⟨nd, rfl⟩⟩))
        go_meet
        case rel => exact ⟨by rw [show frameHead a0_0 a0_1 a0_2 a0_3 (l0_4.length : Int) = true from by unfold frameHead headOk; rw [EP.out, E1.out, E2.out, E3.out, E4.out, E5.out]; rfl]; rfl, by first | exact K1 | exact ⟨by repeat (first | exact K1.out | apply zG | apply zH)⟩, by first | exact HB | exact ⟨by repeat (first | exact HB.out | apply zB | apply below_drew)⟩⟩
     ·have E3 := zA (show decide (a0_1 * a0_2 ≤ 16384) = false by rw [← H0.out]; exact decide_eq_false h3)
      have d3 : decide (16384 < m) = true := zT (by omega)
      clear h3
      go_wp2_with (first | (go_at_call 49; (with_reducible refine (impl_within.calls _ _ _ _ _ A1.out).mono ?_); rintro e w' ⟨rfl, ⟨nd, rfl⟩⟩) | (go_at_call 49; (with_reducible refine (impl_within.calls _ _ _ _ _ A2.out).mono ?_); rintro e w' ⟨rfl, ⟨nd, rfl⟩⟩))
      go_meet
      case rel => exact ⟨by rw [show frameHead a0_0 a0_1 a0_2 a0_3 (l0_4.length : Int) = false from by unfold frameHead headOk; simp only [EP.out, E1.out, E2.out, E3.out]; try simp]; rfl, by first | exact K1 | exact ⟨by repeat (first | exact K1.out | apply zG | apply zH)⟩, by first | exact HB | exact ⟨by repeat (first | exact HB.out | apply zB | apply below_drew)⟩⟩
  ·have b8 : (a0_0 != 8) = true := bne_iff_ne.mpr h8
   by_cases h12 : a0_0 = 12
   ·have b12 : (a0_0 != 12) = false := bne_eq_false_iff_eq.mpr h12
    have EP := zA (show (decide (a0_0 = 8) || decide (a0_0 = 12)) = true by rw [zT h12, Bool.or_true])
    clear h8 h12
    cases h1 : (decide (1 ≤ a0_1) && decide (a0_1 ≤ 256))
    ·have E1 := zA h1
     have A1 := zA ((impl_within.val a0_1 1 256).trans (congrArg some h1))
     clear h1
     go_wp2_with (first | (go_at_call 49; (with_reducible refine (impl_within.calls _ _ _ _ _ A1.out).mono ?_); rintro e w' ⟨rfl, ⟨nd, rfl⟩⟩))
     go_meet
     case rel => exact ⟨by rw [show frameHead a0_0 a0_1 a0_2 a0_3 (l0_4.length : Int) = false from by unfold frameHead headOk; simp only [EP.out, E1.out]; try simp]; rfl, by first | exact K1 | exact ⟨by repeat (first | exact K1.out | apply zG | apply zH)⟩, by first | exact HB | exact ⟨by repeat (first | exact HB.out | apply zB | apply below_drew)⟩⟩
    ·have E1 := zA h1
     have A1 := zA ((impl_within.val a0_1 1 256).trans (congrArg some h1))
     have e1 := h1
     clear h1
     cases h2 : (decide (1 ≤ a0_2) && decide (a0_2 ≤ 256))
     ·have E2 := zA h2
      have A2 := zA ((impl_within.val a0_2 1 256).trans (congrArg some h2))
      clear h2
      go_wp2_with (first | (go_at_call 49; (with_reducible refine (impl_within.calls _ _ _ _ _ A1.out).mono ?_); rintro e w' ⟨rfl, ⟨nd, rfl⟩⟩) | (go_at_call 49; (with_reducible refine (impl_within.calls _ _ _ _ _ A2.out).mono ?_); rintro e w' ⟨rfl, ⟨nd, rfl⟩⟩))
      go_meet
      case rel => exact ⟨by rw [show frameHead a0_0 a0_1 a0_2 a0_3 (l0_4.length : Int) = false from by unfold frameHead headOk; simp only [EP.out, E1.out, E2.out]; try simp]; rfl, by first | exact K1 | exact ⟨by repeat (first | exact K1.out | apply zG | apply zH)⟩, by first | exact HB | exact ⟨by repeat (first | exact HB.out | apply zB | apply below_drew)⟩⟩
     ·have E2 := zA h2
      have A2 := zA ((impl_within.val a0_2 1 256).trans (congrArg some h2))
      have e2 := h2
      clear h2
      have hm := mul_256 a0_1 a0_2 (by simp only [Bool.and_eq_true, decide_eq_true_eq] at e1; exact e1.1) (by simp only [Bool.and_eq_true, decide_eq_true_eq] at e1; exact e1.2) (by simp only [Bool.and_eq_true, decide_eq_true_eq] at e2; exact e2.1) (by simp only [Bool.and_eq_true, decide_eq_true_eq] at e2; exact e2.2)
      obtain ⟨m, hm0⟩ : ∃ m, m = a0_1 * a0_2 := ⟨_, rfl⟩
      rw [← hm0] at hm
      have w1 : wrap64 (a0_1 * a0_2) = m := by rw [← hm0]; exact wrap_in _ (by omega) (by omega)
      have w2 : IntKind.i64.wrap (a0_1 * a0_2) = m := (i64_w _).trans w1
      have H0 := zA hm0
      clear hm0 hm
      by_cases h3 : m ≤ 16384
      ·have E3 := zA (show decide (a0_1 * a0_2 ≤ 16384) = true by rw [← H0.out]; exact zT h3)
       have d3 : decide (16384 < m) = false := decide_eq_false (by omega)
       clear h3
       cases h4 : (decide (0 ≤ a0_3) && decide (a0_3 ≤ 255))
       ·have E4 := zA h4
        have A4 := zA ((impl_within.val a0_3 0 255).trans (congrArg some h4))
        clear h4
        go_wp2_with (first | (go_at_call 49; (with_reducible refine (impl_within.calls _ _ _ _ _ A1.out).mono ?_); rintro e w' ⟨rfl, ⟨nd, rfl⟩⟩) | (go_at_call 49; (with_reducible refine (impl_within.calls _ _ _ _ _ A2.out).mono ?_); rintro e w' ⟨rfl, ⟨nd, rfl⟩⟩) | (go_at_call 49; (with_reducible refine (impl_within.calls _ _ _ _ _ A4.out).mono ?_); rintro e w' ⟨rfl, ⟨nd, rfl⟩⟩))
        go_meet
        case rel => exact ⟨by rw [show frameHead a0_0 a0_1 a0_2 a0_3 (l0_4.length : Int) = false from by unfold frameHead headOk; simp only [EP.out, E1.out, E2.out, E3.out, E4.out]; try simp]; rfl, by first | exact K1 | exact ⟨by repeat (first | exact K1.out | apply zG | apply zH)⟩, by first | exact HB | exact ⟨by repeat (first | exact HB.out | apply zB | apply below_drew)⟩⟩
       ·have E4 := zA h4
        have A4 := zA ((impl_within.val a0_3 0 255).trans (congrArg some h4))
        clear h4
        cases h5 : (decide (1 ≤ (l0_4.length : Int)) && decide ((l0_4.length : Int) ≤ 4))
        ·have E5 := zA h5
         have A5 := zA ((impl_within.val (l0_4.length : Int) 1 4).trans (congrArg some h5))
         clear h5
         go_wp2_with (first | (go_at_call 49; (with_reducible refine (impl_within.calls _ _ _ _ _ A1.out).mono ?_); rintro e w' ⟨rfl, ⟨nd, rfl⟩⟩) | (go_at_call 49; (with_reducible refine (impl_within.calls _ _ _ _ _ A2.out).mono ?_); rintro e w' ⟨rfl, ⟨nd, rfl⟩⟩) | (go_at_call 49; (with_reducible refine (impl_within.calls _ _ _ _ _ A4.out).mono ?_); rintro e w' ⟨rfl, ⟨nd, rfl⟩⟩) | (go_at_call 49; (with_reducible refine (impl_within.calls _ _ _ _ _ A5.out).mono ?_); rintro e w' ⟨rfl, ⟨nd, rfl⟩⟩))
         go_meet
         case rel => exact ⟨by rw [show frameHead a0_0 a0_1 a0_2 a0_3 (l0_4.length : Int) = false from by unfold frameHead headOk; simp only [EP.out, E1.out, E2.out, E3.out, E4.out, E5.out]; try simp]; rfl, by first | exact K1 | exact ⟨by repeat (first | exact K1.out | apply zG | apply zH)⟩, by first | exact HB | exact ⟨by repeat (first | exact HB.out | apply zB | apply below_drew)⟩⟩
        ·have E5 := zA h5
         have A5 := zA ((impl_within.val (l0_4.length : Int) 1 4).trans (congrArg some h5))
         clear h5
         go_wp2_with (first | (go_at_call 49; (with_reducible refine (impl_within.calls _ _ _ _ _ A1.out).mono ?_); rintro e w' ⟨rfl, ⟨nd, rfl⟩⟩) | (go_at_call 49; (with_reducible refine (impl_within.calls _ _ _ _ _ A2.out).mono ?_); rintro e w' ⟨rfl, ⟨nd, rfl⟩⟩) | (go_at_call 49; (with_reducible refine (impl_within.calls _ _ _ _ _ A4.out).mono ?_); rintro e w' ⟨rfl, ⟨nd, rfl⟩⟩) | (go_at_call 49; (with_reducible refine (impl_within.calls _ _ _ _ _ A5.out).mono ?_); rintro e w' ⟨rfl, ⟨nd, rfl⟩⟩))
         go_meet
         case rel => exact ⟨by rw [show frameHead a0_0 a0_1 a0_2 a0_3 (l0_4.length : Int) = true from by unfold frameHead headOk; rw [EP.out, E1.out, E2.out, E3.out, E4.out, E5.out]; rfl]; rfl, by first | exact K1 | exact ⟨by repeat (first | exact K1.out | apply zG | apply zH)⟩, by first | exact HB | exact ⟨by repeat (first | exact HB.out | apply zB | apply below_drew)⟩⟩
      ·have E3 := zA (show decide (a0_1 * a0_2 ≤ 16384) = false by rw [← H0.out]; exact decide_eq_false h3)
       have d3 : decide (16384 < m) = true := zT (by omega)
       clear h3
       go_wp2_with (first | (go_at_call 49; (with_reducible refine (impl_within.calls _ _ _ _ _ A1.out).mono ?_); rintro e w' ⟨rfl, ⟨nd, rfl⟩⟩) | (go_at_call 49; (with_reducible refine (impl_within.calls _ _ _ _ _ A2.out).mono ?_); rintro e w' ⟨rfl, ⟨nd, rfl⟩⟩))
       go_meet
       case rel => exact ⟨by rw [show frameHead a0_0 a0_1 a0_2 a0_3 (l0_4.length : Int) = false from by unfold frameHead headOk; simp only [EP.out, E1.out, E2.out, E3.out]; try simp]; rfl, by first | exact K1 | exact ⟨by repeat (first | exact K1.out | apply zG | apply zH)⟩, by first | exact HB | exact ⟨by repeat (first | exact HB.out | apply zB | apply below_drew)⟩⟩
   ·have b12 : (a0_0 != 12) = true := bne_iff_ne.mpr h12
    have EP := zA (show (decide (a0_0 = 8) || decide (a0_0 = 12)) = false by rw [decide_eq_false h8, decide_eq_false h12]; rfl)
    clear h8 h12
    go_wp2_with (fail)
    go_meet
    case rel => exact ⟨by rw [show frameHead a0_0 a0_1 a0_2 a0_3 (l0_4.length : Int) = false from by unfold frameHead headOk; simp only [EP.out]; try simp]; rfl, by first | exact K1 | exact ⟨by repeat (first | exact K1.out | apply zG | apply zH)⟩, by first | exact HB | exact ⟨by repeat (first | exact HB.out | apply zB | apply below_drew)⟩⟩
 case rest =>
  clear q0 q1 q2 q3 q4 K1 HB
  obtain ⟨rfl, K1, HB⟩ := hcut
  cases hh : frameHead a0_0 a0_1 a0_2 a0_3 (l0_4.length : Int)
  ·have HH := zA hh
   clear hh
   go_wp2
   go_ret
   exact ⟨by rw [← HM.out, frameOkM, HH.out]; rfl, by repeat (first | exact HB.out | apply zB | apply below_drew)⟩
  ·simp only [Bool.not_true]
   obtain ⟨n1, n4⟩ := frameHead_len hh
   have HG := zA (show compsGo l0_4 0 (l0_4.length - 0) 0 = r by rw [← HM.out, frameOkM, hh]; rfl)
   have n4' : l0_4.length ≤ 4 := by omega
   clear hh HM n1 n4
   have q4 := zK K1.out 4
   simp at q4
   go_wp2
   clear q4
   go_loopw [3, 50] (fun v3 v50 w' => FrRel w a0_0 a0_1 a0_2 a0_3 A0_4 c0_4 l0_4 r v3 v50 w') (fun v3 v50 w' => l0_4.length - (intOf v50).toNat)
   case atStart => exact ⟨0, 0, rfl, rfl, Nat.zero_le _, by omega, by omega, HG, by first | exact K1 | exact ⟨by repeat (first | exact K1.out | apply zG | apply zH)⟩, by first | exact HB | exact ⟨by repeat (first | exact HB.out | apply zB | apply below_drew)⟩⟩
   case round =>
    clear HG K1 HB
    obtain ⟨k, s, rfl, rfl, hk, s0, s1, HG, K1, HB⟩ := hrel
    have q4 := zK K1.out 4
    simp at q4
    by_cases hlt : k < l0_4.length
    ·obtain ⟨ad, e1, hx0, hx1, hx2, hx3⟩ := at_T53 (Kd.C_below HR.out HB.out) (k : Int) (by omega) (by omega)
     cases e1
     rw [Int.toNat_natCast] at hx0 hx1 hx2 hx3
     obtain ⟨x, hxe⟩ : ∃ x, x = rd_T53 l0_4 k := ⟨_, rfl⟩
     rw [← hxe] at hx0 hx1 hx2 hx3
     have HXE := zA hxe
     clear hxe
     have hxl : rd_T53 l0_4 k = l0_4[k] := by simp [rd_T53, hlt]
     go_upto_region 7 with (fail)
     clear hx0 hx1 hx2 hx3 q4
     have k2 := blk_new wr (Obj.cells #[.int .i64 x.f0, .int .i64 x.f1, .int .i64 x.f2, .int .i64 x.f3] 53)
     have K1b := zA (zD K1.out (Obj.cells #[.int .i64 x.f0, .int .i64 x.f1, .int .i64 x.f2, .int .i64 x.f3] 53))
     have HBb := zA (zC HB.out (Obj.cells #[.int .i64 x.f0, .int .i64 x.f1, .int .i64 x.f2, .int .i64 x.f3] 53))
     clear K1 HB hxl
     generalize wr.heap.size = g2 at k2 ⊢
     generalize wr.alloc (Obj.cells #[.int .i64 x.f0, .int .i64 x.f1, .int .i64 x.f2, .int .i64 x.f3] 53) = W2 at k2 K1b HBb ⊢
     have K2 := zA k2
     have b0 := zK k2 0
     have b1 := zK k2 1
     have b2 := zK k2 2
     have b3 := zK k2 3
     simp at b0 b1 b2 b3
     clear k2
     have HD := zA (show compsGo l0_4 k (l0_4.length - k) s = (compOk x && (!idIn l0_4 k x.f0 && compsGo l0_4 (k + 1) (l0_4.length - (k + 1)) (s + x.f1 * x.f2))) by rw [show l0_4.length - k = (l0_4.length - (k + 1)) + 1 by omega, compsGo, ← HXE.out])
     obtain ⟨y0, hy0⟩ : ∃ z, z = x.f0 := ⟨_, rfl⟩
     obtain ⟨y1, hy1⟩ : ∃ z, z = x.f1 := ⟨_, rfl⟩
     obtain ⟨y2, hy2⟩ : ∃ z, z = x.f2 := ⟨_, rfl⟩
     obtain ⟨y3, hy3⟩ : ∃ z, z = x.f3 := ⟨_, rfl⟩
     have HY := zA (And.intro hy0 (And.intro hy1 (And.intro hy2 hy3)))
     rw [← hy0] at b0
     rw [← hy1] at b1
     rw [← hy2] at b2
     rw [← hy3] at b3
     (try rw [← hy0, ← hy1, ← hy2, ← hy3])
     clear hy0 hy1 hy2 hy3
     cases h1 : (decide (0 ≤ y0) && decide (y0 ≤ 255))
     ·have E1 := zA h1
      have A1 := zA ((impl_within.val y0 0 255).trans (congrArg some h1))
      clear h1
      have HF := zA (show r = false by rw [← HG.out, HD.out, show compOk x = false by unfold compOk; rw [← HY.out.1, ← HY.out.2.1, ← HY.out.2.2.1, ← HY.out.2.2.2, E1.out]; simp]; simp)
      go_wp2_with (first | (go_at_call 49; (with_reducible refine (impl_within.calls _ _ _ _ _ A1.out).mono ?_); rintro e w' ⟨rfl, ⟨nd, rfl⟩⟩))
      go_ret
      exact ⟨by rw [HF.out]; rfl, by repeat (first | exact HBb.out | apply zB | apply below_drew)⟩
     ·have E1 := zA h1
      have A1 := zA ((impl_within.val y0 0 255).trans (congrArg some h1))
      clear h1
      cases h2 : (decide (1 ≤ y1) && decide (y1 ≤ 4))
      ·have E2 := zA h2
       have A2 := zA ((impl_within.val y1 1 4).trans (congrArg some h2))
       clear h2
       have HF := zA (show r = false by rw [← HG.out, HD.out, show compOk x = false by unfold compOk; rw [← HY.out.1, ← HY.out.2.1, ← HY.out.2.2.1, ← HY.out.2.2.2, E1.out, E2.out]; simp]; simp)
       go_wp2_with (first | (go_at_call 49; (with_reducible refine (impl_within.calls _ _ _ _ _ A1.out).mono ?_); rintro e w' ⟨rfl, ⟨nd, rfl⟩⟩) | (go_at_call 49; (with_reducible refine (impl_within.calls _ _ _ _ _ A2.out).mono ?_); rintro e w' ⟨rfl, ⟨nd, rfl⟩⟩))
       go_ret
       exact ⟨by rw [HF.out]; rfl, by repeat (first | exact HBb.out | apply zB | apply below_drew)⟩
      ·have E2 := zA h2
       have A2 := zA ((impl_within.val y1 1 4).trans (congrArg some h2))
       clear h2
       cases h3 : (decide (1 ≤ y2) && decide (y2 ≤ 4))
       ·have E3 := zA h3
        have A3 := zA ((impl_within.val y2 1 4).trans (congrArg some h3))
        clear h3
        have HF := zA (show r = false by rw [← HG.out, HD.out, show compOk x = false by unfold compOk; rw [← HY.out.1, ← HY.out.2.1, ← HY.out.2.2.1, ← HY.out.2.2.2, E1.out, E2.out, E3.out]; simp]; simp)
        go_wp2_with (first | (go_at_call 49; (with_reducible refine (impl_within.calls _ _ _ _ _ A1.out).mono ?_); rintro e w' ⟨rfl, ⟨nd, rfl⟩⟩) | (go_at_call 49; (with_reducible refine (impl_within.calls _ _ _ _ _ A2.out).mono ?_); rintro e w' ⟨rfl, ⟨nd, rfl⟩⟩) | (go_at_call 49; (with_reducible refine (impl_within.calls _ _ _ _ _ A3.out).mono ?_); rintro e w' ⟨rfl, ⟨nd, rfl⟩⟩))
        go_ret
        exact ⟨by rw [HF.out]; rfl, by repeat (first | exact HBb.out | apply zB | apply below_drew)⟩
       ·have E3 := zA h3
        have A3 := zA ((impl_within.val y2 1 4).trans (congrArg some h3))
        clear h3
        cases h4 : (decide (0 ≤ y3) && decide (y3 ≤ 3))
        ·have E4 := zA h4
         have A4 := zA ((impl_within.val y3 0 3).trans (congrArg some h4))
         clear h4
         have HF := zA (show r = false by rw [← HG.out, HD.out, show compOk x = false by unfold compOk; rw [← HY.out.1, ← HY.out.2.1, ← HY.out.2.2.1, ← HY.out.2.2.2, E1.out, E2.out, E3.out, E4.out]; simp]; simp)
         go_wp2_with (first | (go_at_call 49; (with_reducible refine (impl_within.calls _ _ _ _ _ A1.out).mono ?_); rintro e w' ⟨rfl, ⟨nd, rfl⟩⟩) | (go_at_call 49; (with_reducible refine (impl_within.calls _ _ _ _ _ A2.out).mono ?_); rintro e w' ⟨rfl, ⟨nd, rfl⟩⟩) | (go_at_call 49; (with_reducible refine (impl_within.calls _ _ _ _ _ A3.out).mono ?_); rintro e w' ⟨rfl, ⟨nd, rfl⟩⟩) | (go_at_call 49; (with_reducible refine (impl_within.calls _ _ _ _ _ A4.out).mono ?_); rintro e w' ⟨rfl, ⟨nd, rfl⟩⟩))
         go_ret
         exact ⟨by rw [HF.out]; rfl, by repeat (first | exact HBb.out | apply zB | apply below_drew)⟩
        ·have E4 := zA h4
         have A4 := zA ((impl_within.val y3 0 3).trans (congrArg some h4))
         clear h4
         have hc_ : compOk x = true := by unfold compOk; rw [← HY.out.1, ← HY.out.2.1, ← HY.out.2.2.1, ← HY.out.2.2.2, E1.out, E2.out, E3.out, E4.out]; rfl
         have HOK := zA hc_
         have hm_ := mul_16 y1 y2 (by rw [HY.out.2.1]; exact (compOk_of hc_).2.1.1) (by rw [HY.out.2.1]; exact (compOk_of hc_).2.1.2) (by rw [HY.out.2.2.1]; exact (compOk_of hc_).2.2.1.1) (by rw [HY.out.2.2.1]; exact (compOk_of hc_).2.2.1.2)
         obtain ⟨m, hm0⟩ : ∃ m, m = y1 * y2 := ⟨_, rfl⟩
         rw [← hm0] at hm_
         have w1 : wrap64 (y1 * y2) = m := by rw [← hm0]; exact wrap_in _ (by omega) (by omega)
         have w2 : IntKind.i64.wrap (y1 * y2) = m := (i64_w _).trans w1
         have w3 : wrap64 (s + m) = s + m := wrap_in _ (by omega) (by omega)
         have w4 : IntKind.i64.wrap (s + m) = s + m := (i64_w _).trans w3
         have HM0 := zA hm0
         clear hm0 hc_
         have q4 := zK K1b.out 4
         simp at q4
         have hcut := cut_comp (some ad) c0_4 l0_4 k (by omega) HC.out
         have ht_ := Kd.C_below (Kd.C_take HR.out (show k ≤ l0_4.length by omega)) HBb.out; rw [show (l0_4.take k).length = k by rw [zQ]; omega] at ht_; have HT := zA ht_; clear ht_
         cases hid : idIn l0_4 k x.f0
         ·have HI := zA hid
          have hia : (l0_4.take k).any (fun y => decide (y.f0 = x.f0)) = false := hid
          have HIA := zA hia
          clear hid hia
          go_wp2_with (first | (go_at_call 49; (with_reducible refine (impl_within.calls _ _ _ _ _ A1.out).mono ?_); rintro e w' ⟨rfl, ⟨nd, rfl⟩⟩) | (go_at_call 49; (with_reducible refine (impl_within.calls _ _ _ _ _ A2.out).mono ?_); rintro e w' ⟨rfl, ⟨nd, rfl⟩⟩) | (go_at_call 49; (with_reducible refine (impl_within.calls _ _ _ _ _ A3.out).mono ?_); rintro e w' ⟨rfl, ⟨nd, rfl⟩⟩) | (go_at_call 49; (with_reducible refine (impl_within.calls _ _ _ _ _ A4.out).mono ?_); rintro e w' ⟨rfl, ⟨nd, rfl⟩⟩) | (go_at_call 76; (with_reducible refine (cont_CompP.n _ _ (fun _ => True) (fun y => decide (y.f0 = x.f0)) _ k _ (l0_4.take k) _ (by rw [zQ]; omega) ?sp (fun _ _ => trivial) ?sr ?sc (by omega)).mono ?_); (case sp => exact CompP.at_ (frame_id x W2 g2 K2.out) (by repeat (first | exact Below.refl _ _ | apply zB | apply below_drew))); (case sr => repeat (first | exact HT.out | (with_reducible refine yF ?_ _) | (with_reducible refine yG ?_))); (case sc => have := HC.out; omega); rintro e w' ⟨rfl, hb_⟩; have HBc := zA (Below.trans (by repeat (first | exact Below.refl _ _ | apply zB | apply below_drew)) hb_ : Below W2.heap.size W2 w'); clear hb_; rw [HIA.out]; have k2_ := (HBc.out.block _ (blk_lt K2.out)).trans K2.out; have K1c := zA ((HBc.out.block _ (blk_lt K1b.out)).trans K1b.out); have c1_ := zK k2_ 1; have c2_ := zK k2_ 2; simp at c1_ c2_; rw [← HY.out.2.1] at c1_; rw [← HY.out.2.2.1] at c2_; clear k2_))
          have HBd := zA (Below.trans HBb.out (Below.mono HBc.out HBb.out.size))
          go_roundw
          case rel => exact ⟨k + 1, s + m, rfl, by go_num, by omega, by omega, by omega, ⟨by have h_ := HD.out; rw [HG.out, HOK.out, HI.out] at h_; rw [HM0.out, HY.out.2.1, HY.out.2.2.1]; exact h_.symm⟩, ⟨by repeat (first | exact K1c.out | apply zG | apply zH)⟩, ⟨by repeat (first | exact HBd.out | apply zB | apply below_drew)⟩⟩
          case measure => simp [intOf]; omega
         ·have HI := zA hid
          have hia : (l0_4.take k).any (fun y => decide (y.f0 = x.f0)) = true := hid
          have HIA := zA hia
          clear hid hia
          have HF := zA (show r = false by rw [← HG.out, HD.out, HI.out]; simp)
          go_wp2_with (first | (go_at_call 49; (with_reducible refine (impl_within.calls _ _ _ _ _ A1.out).mono ?_); rintro e w' ⟨rfl, ⟨nd, rfl⟩⟩) | (go_at_call 49; (with_reducible refine (impl_within.calls _ _ _ _ _ A2.out).mono ?_); rintro e w' ⟨rfl, ⟨nd, rfl⟩⟩) | (go_at_call 49; (with_reducible refine (impl_within.calls _ _ _ _ _ A3.out).mono ?_); rintro e w' ⟨rfl, ⟨nd, rfl⟩⟩) | (go_at_call 49; (with_reducible refine (impl_within.calls _ _ _ _ _ A4.out).mono ?_); rintro e w' ⟨rfl, ⟨nd, rfl⟩⟩) | (go_at_call 76; (with_reducible refine (cont_CompP.n _ _ (fun _ => True) (fun y => decide (y.f0 = x.f0)) _ k _ (l0_4.take k) _ (by rw [zQ]; omega) ?sp (fun _ _ => trivial) ?sr ?sc (by omega)).mono ?_); (case sp => exact CompP.at_ (frame_id x W2 g2 K2.out) (by repeat (first | exact Below.refl _ _ | apply zB | apply below_drew))); (case sr => repeat (first | exact HT.out | (with_reducible refine yF ?_ _) | (with_reducible refine yG ?_))); (case sc => have := HC.out; omega); rintro e w' ⟨rfl, hb_⟩; have HBc := zA (Below.trans (by repeat (first | exact Below.refl _ _ | apply zB | apply below_drew)) hb_ : Below W2.heap.size W2 w'); clear hb_; rw [HIA.out]))
          go_ret
          exact ⟨by rw [HF.out]; rfl, by repeat (first | exact Below.trans HBb.out (Below.mono HBc.out HBb.out.size) | apply zB | apply below_drew)⟩
    ·obtain rfl : k = l0_4.length := by omega
     have HE := zA (show decide (s ≤ 10) = r by have := HG.out; rw [Nat.sub_self] at this; exact this)
     clear HG
     go_wp2
     go_ret
     exact ⟨by rw [← HE.out]; rfl, by repeat (first | exact HB.out | apply zB | apply below_drew)⟩
end Go.Proofs.YtilimpjcdeeaiaaGreat.G


namespace Go.Proofs.YtilimpjcdeeaiaaGreat.G
open Go.RowKit Go.Proofs.YtilimpjcdeeaiaaGreatW.PrintWords Go.Proofs.YtilimpjcdeeaiaaGreatW.PrintLast Go.Proofs.YtilimpjcdeeaiaaGreatW.PrintMore
attribute [local go_sem] max2_int min2_int max_two min_two max_three min_three max_four min_four   -- for this text's walks alone
def impl_Frame_most.l0 : Nat → Int → Int → List (S53) → Int → Int → Option (Int × Int)
 | 0, _, _, _, _, _ => none
 | k + 1, x4, x5, x9, x10, x11 => if x11 < x10 then (if 0 ≤ x11 then (if x11 < (x9.length : Int) then (impl_Frame_most.l0 k (mx x4 ((rd_T53 x9 x11).f1)) (mx x5 ((rd_T53 x9 x11).f2)) x9 x10 (wrap64 (x11 + 1))) else (none)) else (none)) else (some (x4, x5))
def impl_Frame_most.f (k : Nat) (a0_0 : Int) (a0_1 : Int) (a0_2 : Int) (a0_3 : Int) (l0_4 : List (S53)) : Option (Int × Int) := impl_Frame_most.l0 k 1 1 l0_4 (l0_4.length : Int) 0
set_option maxHeartbeats 8000000 in
set_option maxRecDepth 100000 in
theorem impl_Frame_most.calls (k : Nat) (a0_0 : Int) (a0_1 : Int) (a0_2 : Int) (a0_3 : Int) (A0_4 : Option Addr) (c0_4 : Nat) (l0_4 : List (S53)) (r1 : Int) (r2 : Int) (w : World) (hr0_4 : Kd.C k53 w A0_4 l0_4.length l0_4) (hc0_4 : l0_4.length ≤ c0_4) (h : impl_Frame_most.f k a0_0 a0_1 a0_2 a0_3 l0_4 = some (r1, r2)) :
  Calls Tryz.prog 92 #[.agg #[.int .i64 a0_0, .int .i64 a0_1, .int .i64 a0_2, .int .i64 a0_3, .slice A0_4 l0_4.length c0_4]] w fun e w' => e = .returned (.tuple #[.int .i64 r1, .int .i64 r2]) ∧ Below w.heap.size w w' := by
 have hu37 := Tryz.underlying37
 have hu53 := Tryz.underlying53
 have HR0_4 := zA hr0_4
 have HC0_4 := zA hc0_4
 clear hr0_4 hc0_4
 have HB := zA (Below.refl w.heap.size w)
 have H : (impl_Frame_most.l0 k 1 1 l0_4 (l0_4.length : Int) 0) = some (r1, r2) := h
 clear h
 have H' := zA H
 clear H
 go_enter Tryz.func92, Tryz.ntmps92
 go_wp2_with (first | ((with_reducible refine gate_dst (N := 1) rfl ?_); refine nxX (N := 1) (cs := #[.int .i64 a0_0, .int .i64 a0_1, .int .i64 a0_2, .int .i64 a0_3, .slice A0_4 l0_4.length c0_4]) (t := 37) ?_; intro gb327 hg w2 hbox hb; have BK327 := zA (hbox); have GE327 := nxG HB hg; replace HB := nxH hb HB; clear hb hbox hg; obtain ⟨hcz3_0, hcz3_1, hcz3_2, hcz3_3, hcz3_4⟩ := cz5 BK327; obtain ⟨hfz3_0, hfz3_1, hfz3_2, hfz3_3, hfz3_4⟩ := fz5 BK327))
 go_loopg [4, 5, 11] k (fun kq v4 v5 v11 w' => ∃ (x4_1 : Int) (x5_1 : Int) (x11_1 : Int), v4 = .int .i64 x4_1 ∧ v5 = .int .i64 x5_1 ∧ v11 = .int .i64 x11_1 ∧ Aside0 (impl_Frame_most.l0 kq x4_1 x5_1 l0_4 (l0_4.length : Int) x11_1 = some (r1, r2)) ∧ Aside0 (kq ≤ k) ∧ Aside0 (w'.heap[gb327]? = some (.cells #[.int .i64 a0_0, .int .i64 a0_1, .int .i64 a0_2, .int .i64 a0_3, (.slice A0_4 l0_4.length c0_4)] 37 (0, 0))) ∧ Aside0 (Below w.heap.size w w'))
 case atStart => exact ⟨(1), (1), (0), rfl, rfl, rfl, H', ⟨Nat.le_refl _⟩, ⟨BK327.out⟩, ⟨nxD HB⟩⟩
 case round =>
  clear H'
  obtain ⟨x4_1, x5_1, x11_1, rfl, rfl, rfl, HA, HK1, BK327, HB⟩ := hrel
  cases gk with
  | zero => exact absurd HA.out (by simp [impl_Frame_most.l0])
  | succ k1 =>
   have H := HA.out
   clear HA
   simp only [impl_Frame_most.l0] at H
   by_cases c4 : x11_1 < (l0_4.length : Int)
   ·rw [if_pos c4] at H
    have c4b0 := zT c4
    clear c4
    by_cases c5 : 0 ≤ x11_1
    ·rw [if_pos c5] at H
     have c5b0 := zT c5
     clear c5
     by_cases c6 : x11_1 < (l0_4.length : Int)
     ·rw [if_pos c6] at H
      have c6b0 := zT c6
      clear c6
      obtain ⟨ji7, hji7⟩ : ∃ j_ : Int, (mx x4_1 ((rd_T53 l0_4 x11_1).f1)) = j_ := ⟨_, rfl⟩
      replace H : (impl_Frame_most.l0 k1 ji7 (mx x5_1 ((rd_T53 l0_4 x11_1).f2)) l0_4 (l0_4.length : Int) (wrap64 (x11_1 + 1))) = some (r1, r2) := by first | (rw [hji7] at H; exact H) | (simp only [hji7] at H ⊢; exact H)
      have hji7_ : (if x4_1 < ((rd_T53 l0_4 x11_1).f1) then ((rd_T53 l0_4 x11_1).f1) else x4_1) = ji7 := hji7
      obtain ⟨ji8, hji8⟩ : ∃ j_ : Int, (mx x5_1 ((rd_T53 l0_4 x11_1).f2)) = j_ := ⟨_, rfl⟩
      replace H : (impl_Frame_most.l0 k1 ji7 ji8 l0_4 (l0_4.length : Int) (wrap64 (x11_1 + 1))) = some (r1, r2) := by first | (rw [hji8] at H; exact H) | (simp only [hji8] at H ⊢; exact H)
      have hji8_ : (if x5_1 < ((rd_T53 l0_4 x11_1).f2) then ((rd_T53 l0_4 x11_1).f2) else x5_1) = ji8 := hji8
      have H' := zA H
      clear H
      have p328 : 0 ≤ (x11_1 : Int) := zI (by first | (with_reducible assumption) | assumption)
      have q328 : x11_1 < (l0_4.length : Int) := zI (by first | (with_reducible assumption) | assumption)
      obtain ⟨ad328, e328, hx328_0, hx328_1, hx328_2, hx328_3⟩ := at_T53 HR0_4.out x11_1 p328 q328
      cases e328
      replace hx328_0 := (HB.out.cell (World.block_lt_of_cell? w _ hx328_0)).trans hx328_0
      replace hx328_1 := (HB.out.cell (World.block_lt_of_cell? w _ hx328_1)).trans hx328_1
      replace hx328_2 := (HB.out.cell (World.block_lt_of_cell? w _ hx328_2)).trans hx328_2
      replace hx328_3 := (HB.out.cell (World.block_lt_of_cell? w _ hx328_3)).trans hx328_3
      replace p328 := eq_true p328
      replace q328 := eq_true q328
      go_wp2_with (first | ((with_reducible refine gate_dst (N := 7) rfl ?_); refine nxX (N := 7) (cs := #[.int .i64 0, .int .i64 0, .int .i64 0, .int .i64 0]) (t := 53) ?_; intro gb329 hg w9 hbox hb; have BK329 := zA (hbox); have GE329 := nxG HB hg; have NB327_329 := nxL BK327 hg; have NB329_327 := nxK BK327 hg; replace BK327 := nxB hb BK327; replace HB := nxH hb HB; clear hb hbox hg; have hnb10 := NB329_327.out; have hnc10 := NB327_329.out; obtain ⟨hcz11_0, hcz11_1, hcz11_2, hcz11_3⟩ := cz4 BK329; obtain ⟨hfz11_0, hfz11_1, hfz11_2, hfz11_3⟩ := fz4 BK329))
      repeat (go_quiet (fail); try go_wp2_with (fail))
      go_roundg k1
      case measure => have := HK1.out; omega
      case rel => exact ⟨(ji7), (ji8), (wrap64 (x11_1 + 1)), (by first | rfl | (simp; done) | (simp only [← hji7] <;> (first | rfl | simp)) | (simp [*]; done)), (by first | rfl | (simp; done) | (simp only [← hji8] <;> (first | rfl | simp)) | (simp [*]; done)), rfl, H', ⟨by have := HK1.out; omega⟩, ⟨by (with_reducible repeat (first | refine zG ?_ _ | refine zH ?_ | refine zD ?_ _)); refine blk_far ?_ NB327_329.out _; (with_reducible repeat (first | refine zG ?_ _ | refine zH ?_ | refine zD ?_ _)); refine blk_far ?_ NB327_329.out _; (with_reducible repeat (first | refine zG ?_ _ | refine zH ?_ | refine zD ?_ _)); refine blk_far ?_ NB327_329.out _; (with_reducible repeat (first | refine zG ?_ _ | refine zH ?_ | refine zD ?_ _)); refine blk_far ?_ NB327_329.out _; (with_reducible repeat (first | refine zG ?_ _ | refine zH ?_ | refine zD ?_ _)); exact BK327.out⟩, ⟨by repeat (first | (with_reducible first | exact HB.out | apply zC | apply zB | apply zF | refine zE ?_ GE327.out | refine zE ?_ GE329.out) | exact HB.out)⟩⟩
     ·rw [if_neg c6] at H
      exact absurd H (by simp)
    ·rw [if_neg c5] at H
     exact absurd H (by simp)
   ·rw [if_neg c4] at H
    have c4b0 := decide_eq_false c4
    clear c4
    simp only [Option.some.injEq, Prod.mk.injEq] at H
    obtain ⟨rfl, rfl⟩ := H
    go_wp2
    repeat (go_quiet (fail); try go_wp2)
    go_ret2
    exact ⟨rfl, nxD HB⟩
end Go.Proofs.YtilimpjcdeeaiaaGreat.G


namespace Go.Proofs.YtilimpjcdeeaiaaGreat.G
open Go.RowKit Go.Proofs.YtilimpjcdeeaiaaGreatW.PrintWords Go.Proofs.YtilimpjcdeeaiaaGreatW.PrintLast Go.Proofs.YtilimpjcdeeaiaaGreatW.PrintMore
attribute [local go_sem] max2_int min2_int max_two min_two max_three min_three max_four min_four   -- for this text's walks alone
def impl_up.f (a0 : Int) (a1 : Int) : Option (Int) := if a1 = 0 then (none) else (some (wrap64 (Int.tdiv (wrap64 ((wrap64 (a0 + a1)) - 1)) a1)))
set_option maxHeartbeats 8000000 in
set_option maxRecDepth 100000 in
theorem impl_up.calls (a0 : Int) (a1 : Int) (r : Int) (w : World) (h : impl_up.f a0 a1 = some r) :
  Calls Tryz.prog 93 #[.int .i64 a0, .int .i64 a1] w fun e w' => e = .returned (.int .i64 r) ∧ Drawn0 w w' := by
 have H : (if a1 = 0 then (none) else (some (wrap64 (Int.tdiv (wrap64 ((wrap64 (a0 + a1)) - 1)) a1)))) = some r := h
 clear h
 by_cases c3 : a1 = 0
 ·rw [if_pos c3] at H
  exact absurd H (by simp)
 rw [if_neg c3] at H
 have c3b0 : (a1 == 0) = false := beq_eq_false_iff_ne.mpr c3
 have c3b1 : (a1 != 0) = true := bne_iff_ne.mpr c3
 obtain rfl := Option.some.inj H
 go_enter Tryz.func93, Tryz.ntmps93
 go_wp2
 go_ret
 exact ⟨by first | rfl | (simp; done) | (simp [*]; done), by repeat (first | exact Drawn0.refl _ | apply Drawn0.step)⟩
end Go.Proofs.YtilimpjcdeeaiaaGreat.G


namespace Go.Proofs.YtilimpjcdeeaiaaGreat.G
open Go.RowKit Go.Proofs.YtilimpjcdeeaiaaGreatW.PrintWords Go.Proofs.YtilimpjcdeeaiaaGreatW.PrintLast Go.Proofs.YtilimpjcdeeaiaaGreatW.PrintMore
attribute [local go_sem] max2_int min2_int max_two min_two max_three min_three max_four min_four   -- for this text's walks alone
def impl_Frame_units.f (k : Nat) (a0_0 : Int) (a0_1 : Int) (a0_2 : Int) (a0_3 : Int) (l0_4 : List (S53)) : Option (Int × Int) := (impl_Frame_most.f k a0_0 a0_1 a0_2 a0_3 l0_4).bind fun bt331 => ((impl_up.f a0_1 (wrap64 (8 * bt331.1))).bind fun t333 => ((impl_up.f a0_2 (wrap64 (8 * bt331.2))).bind fun t334 => (some (t333, t334))))
set_option maxHeartbeats 8000000 in
set_option maxRecDepth 100000 in
theorem impl_Frame_units.calls (k : Nat) (a0_0 : Int) (a0_1 : Int) (a0_2 : Int) (a0_3 : Int) (A0_4 : Option Addr) (c0_4 : Nat) (l0_4 : List (S53)) (r1 : Int) (r2 : Int) (w : World) (hr0_4 : Kd.C k53 w A0_4 l0_4.length l0_4) (hc0_4 : l0_4.length ≤ c0_4) (h : impl_Frame_units.f k a0_0 a0_1 a0_2 a0_3 l0_4 = some (r1, r2)) :
  Calls Tryz.prog 78 #[.agg #[.int .i64 a0_0, .int .i64 a0_1, .int .i64 a0_2, .int .i64 a0_3, .slice A0_4 l0_4.length c0_4]] w fun e w' => e = .returned (.tuple #[.int .i64 r1, .int .i64 r2]) ∧ Below w.heap.size w w' := by
 have hu37 := Tryz.underlying37
 have HR0_4 := zA hr0_4
 have HC0_4 := zA hc0_4
 clear hr0_4 hc0_4
 have HB := zA (Below.refl w.heap.size w)
 have H : ((impl_Frame_most.f k a0_0 a0_1 a0_2 a0_3 l0_4).bind fun bt331 => ((impl_up.f a0_1 (wrap64 (8 * bt331.1))).bind fun t333 => ((impl_up.f a0_2 (wrap64 (8 * bt331.2))).bind fun t334 => (some (t333, t334))))) = some (r1, r2) := h
 clear h
 replace H := Option.bind_eq_some_iff.mp H
 obtain ⟨⟨t331, t332⟩, A20, H⟩ := H
 try dsimp only at H
 have A2 := zA A20
 clear A20
 replace H := Option.bind_eq_some_iff.mp H
 obtain ⟨t333, A30, H⟩ := H
 try dsimp only at H
 have A3 := zA A30
 clear A30
 replace H := Option.bind_eq_some_iff.mp H
 obtain ⟨t334, A40, H⟩ := H
 try dsimp only at H
 have A4 := zA A40
 clear A40
 simp only [Option.some.injEq, Prod.mk.injEq] at H
 obtain ⟨rfl, rfl⟩ := H
 go_enter Tryz.func78, Tryz.ntmps78
 go_wp2_with (first | ((with_reducible refine gate_dst (N := 1) rfl ?_); refine nxX (N := 1) (cs := #[.int .i64 a0_0, .int .i64 a0_1, .int .i64 a0_2, .int .i64 a0_3, .slice A0_4 l0_4.length c0_4]) (t := 37) ?_; intro gb330 hg w5 hbox hb; have n0_ := nxH hb HB; have n1_ := zA (hbox); clear HB; have HB := n0_; have BK330 := n1_; clear n0_ n1_ ; clear hb hbox hg; obtain ⟨hcz6_0, hcz6_1, hcz6_2, hcz6_3, hcz6_4⟩ := cz5 BK330) | (go_at_call 92; (with_reducible refine (impl_Frame_most.calls k a0_0 a0_1 a0_2 a0_3 _ _ l0_4 t331 t332 _ ?side1 ?side2 A2.out).mono ?_); (case side1 => exact nxC HR0_4 HB); (case side2 => exact HC0_4.out); rintro e w7 ⟨rfl, hb⟩; replace BK330 := nxB hb BK330; replace HB := nxH hb HB; (try clear hb); (try clear hb2); (try clear hk); (try clear hi); obtain ⟨hcz8_0, hcz8_1, hcz8_2, hcz8_3, hcz8_4⟩ := cz5 BK330))
 repeat (go_quiet (first | (go_at_call 93; (with_reducible refine (impl_up.calls a0_1 (wrap64 (8 * t331)) t333 _ A3.out).mono ?_); rintro e w' ⟨rfl, ⟨nd, rfl⟩⟩; (try first | exact ⟨rfl, _, World.drewN_drewN _ _ _⟩ | exact ⟨rfl, _, Eq.trans (World.drewN_drewN _ _ _) (congrArg (World.drewN _) (Nat.add_assoc _ _ _))⟩)) | (go_at_call 93; (with_reducible refine (impl_up.calls a0_2 (wrap64 (8 * t332)) t334 _ A4.out).mono ?_); rintro e w' ⟨rfl, ⟨nd, rfl⟩⟩; (try first | exact ⟨rfl, _, World.drewN_drewN _ _ _⟩ | exact ⟨rfl, _, Eq.trans (World.drewN_drewN _ _ _) (congrArg (World.drewN _) (Nat.add_assoc _ _ _))⟩))); try go_wp2_with (fail))
 go_ret2
 exact ⟨rfl, nxD HB⟩
end Go.Proofs.YtilimpjcdeeaiaaGreat.G


namespace Go.Proofs.YtilimpjcdeeaiaaGreat.G
open Go.RowKit Go.Proofs.YtilimpjcdeeaiaaGreatW.PrintWords Go.Proofs.YtilimpjcdeeaiaaGreatW.PrintLast Go.Proofs.YtilimpjcdeeaiaaGreatW.PrintMore
attribute [local go_sem] max2_int min2_int max_two min_two max_three min_three max_four min_four   -- for this text's walks alone
def impl_Frame_blocks.f (k : Nat) (a0_0 : Int) (a0_1 : Int) (a0_2 : Int) (a0_3 : Int) (l0_4 : List (S53)) (a1 : Int) : Option (Int × Int) := (impl_Frame_units.f k a0_0 a0_1 a0_2 a0_3 l0_4).bind fun bt336 => (if 0 ≤ a1 then (if a1 < (l0_4.length : Int) then (some (wrap64 (bt336.1 * ((rd_T53 l0_4 a1).f1)), wrap64 (bt336.2 * ((rd_T53 l0_4 a1).f2)))) else (none)) else (none))
set_option maxHeartbeats 8000000 in
set_option maxRecDepth 100000 in
theorem impl_Frame_blocks.calls (k : Nat) (a0_0 : Int) (a0_1 : Int) (a0_2 : Int) (a0_3 : Int) (A0_4 : Option Addr) (c0_4 : Nat) (l0_4 : List (S53)) (a1 : Int) (r1 : Int) (r2 : Int) (w : World) (hr0_4 : Kd.C k53 w A0_4 l0_4.length l0_4) (hc0_4 : l0_4.length ≤ c0_4) (h : impl_Frame_blocks.f k a0_0 a0_1 a0_2 a0_3 l0_4 a1 = some (r1, r2)) :
  Calls Tryz.prog 67 #[.agg #[.int .i64 a0_0, .int .i64 a0_1, .int .i64 a0_2, .int .i64 a0_3, .slice A0_4 l0_4.length c0_4], .int .i64 a1] w fun e w' => e = .returned (.tuple #[.int .i64 r1, .int .i64 r2]) ∧ Below w.heap.size w w' := by
 have hu37 := Tryz.underlying37
 have HR0_4 := zA hr0_4
 have HC0_4 := zA hc0_4
 clear hr0_4 hc0_4
 have HB := zA (Below.refl w.heap.size w)
 have H : ((impl_Frame_units.f k a0_0 a0_1 a0_2 a0_3 l0_4).bind fun bt336 => (if 0 ≤ a1 then (if a1 < (l0_4.length : Int) then (some (wrap64 (bt336.1 * ((rd_T53 l0_4 a1).f1)), wrap64 (bt336.2 * ((rd_T53 l0_4 a1).f2)))) else (none)) else (none))) = some (r1, r2) := h
 clear h
 replace H := Option.bind_eq_some_iff.mp H
 obtain ⟨⟨t336, t337⟩, A30, H⟩ := H
 try dsimp only at H
 have A3 := zA A30
 clear A30
 by_cases c4 : 0 ≤ a1
 rotate_left
 ·rw [if_neg c4] at H
  exact absurd H (by simp)
 rw [if_pos c4] at H
 have c4b0 := zT c4
 clear c4
 by_cases c5 : a1 < (l0_4.length : Int)
 rotate_left
 ·rw [if_neg c5] at H
  exact absurd H (by simp)
 rw [if_pos c5] at H
 have c5b0 := zT c5
 clear c5
 simp only [Option.some.injEq, Prod.mk.injEq] at H
 obtain ⟨rfl, rfl⟩ := H
 go_enter Tryz.func67, Tryz.ntmps67
 go_wp2_with (first | ((with_reducible refine gate_dst (N := 2) rfl ?_); refine nxX (N := 2) (cs := #[.int .i64 a0_0, .int .i64 a0_1, .int .i64 a0_2, .int .i64 a0_3, .slice A0_4 l0_4.length c0_4]) (t := 37) ?_; intro gb335 hg w6 hbox hb; have n0_ := nxH hb HB; have n1_ := zA (hbox); clear HB; have HB := n0_; have BK335 := n1_; clear n0_ n1_ ; clear hb hbox hg; obtain ⟨hcz7_0, hcz7_1, hcz7_2, hcz7_3, hcz7_4⟩ := cz5 BK335) | (go_at_call 78; (with_reducible refine (impl_Frame_units.calls k a0_0 a0_1 a0_2 a0_3 _ _ l0_4 t336 t337 _ ?side1 ?side2 A3.out).mono ?_); (case side1 => exact nxC HR0_4 HB); (case side2 => exact HC0_4.out); rintro e w8 ⟨rfl, hb⟩; replace BK335 := nxB hb BK335; replace HB := nxH hb HB; (try clear hb); (try clear hb2); (try clear hk); (try clear hi); obtain ⟨hcz9_0, hcz9_1, hcz9_2, hcz9_3, hcz9_4⟩ := cz5 BK335; have p338 : 0 ≤ (a1 : Int) := zI (by first | (with_reducible assumption) | assumption); have q338 : a1 < (l0_4.length : Int) := zI (by first | (with_reducible assumption) | assumption); obtain ⟨ad338, e338, hx338_0, hx338_1, hx338_2, hx338_3⟩ := at_T53 HR0_4.out a1 p338 q338; cases e338; replace hx338_0 := (HB.out.cell (World.block_lt_of_cell? w _ hx338_0)).trans hx338_0; replace hx338_1 := (HB.out.cell (World.block_lt_of_cell? w _ hx338_1)).trans hx338_1; replace hx338_2 := (HB.out.cell (World.block_lt_of_cell? w _ hx338_2)).trans hx338_2; replace hx338_3 := (HB.out.cell (World.block_lt_of_cell? w _ hx338_3)).trans hx338_3; replace p338 := eq_true p338; replace q338 := eq_true q338; have p339 : 0 ≤ (a1 : Int) := zI (by first | (with_reducible assumption) | assumption); have q339 : a1 < (l0_4.length : Int) := zI (by first | (with_reducible assumption) | assumption); obtain ⟨ad339, e339, hx339_0, hx339_1, hx339_2, hx339_3⟩ := at_T53 HR0_4.out a1 p339 q339; obtain rfl : ad338 = ad339 := (by injection e339); replace hx339_0 := (HB.out.cell (World.block_lt_of_cell? w _ hx339_0)).trans hx339_0; replace hx339_1 := (HB.out.cell (World.block_lt_of_cell? w _ hx339_1)).trans hx339_1; replace hx339_2 := (HB.out.cell (World.block_lt_of_cell? w _ hx339_2)).trans hx339_2; replace hx339_3 := (HB.out.cell (World.block_lt_of_cell? w _ hx339_3)).trans hx339_3; replace p339 := eq_true p339; replace q339 := eq_true q339))
 repeat (go_quiet (fail); try go_wp2_with (fail))
 go_ret2
 exact ⟨rfl, nxD HB⟩
end Go.Proofs.YtilimpjcdeeaiaaGreat.G


namespace Go.Proofs.YtilimpjcdeeaiaaGreat.G
open Go.RowKit Go.Proofs.YtilimpjcdeeaiaaGreatW.PrintWords Go.Proofs.YtilimpjcdeeaiaaGreatW.PrintLast Go.Proofs.YtilimpjcdeeaiaaGreatW.PrintMore
attribute [local go_sem] max2_int min2_int max_two min_two max_three min_three max_four min_four   -- for this text's walks alone
def impl_isLevels.f (k : Nat) (l0 : List Int) : Option (Bool) := if (l0.length : Int) = 64 then ((impl_allWithin.f k l0 (-16383) 16383).bind fun t340 => (some t340)) else (some false)
set_option maxHeartbeats 8000000 in
set_option maxRecDepth 100000 in
theorem impl_isLevels.calls (k : Nat) (A0 : Option Addr) (c0 : Nat) (l0 : List Int) (r : Bool) (w : World) (hr0 : Kd.C (Kd.int .i64) w A0 l0.length l0) (hc0 : l0.length ≤ c0) (h : impl_isLevels.f k l0 = some r) :
  Calls Tryz.prog 68 #[.slice A0 l0.length c0] w fun e w' => e = .returned (.bool r) ∧ Drawn0 w w' := by
 have HR0 := zA hr0
 have HC0 := zA hc0
 clear hr0 hc0
 have H : (if (l0.length : Int) = 64 then ((impl_allWithin.f k l0 (-16383) 16383).bind fun t340 => (some t340)) else (some false)) = some r := h
 clear h
 by_cases c2 : (l0.length : Int) = 64
 rotate_left
 ·rw [if_neg c2] at H
  have c2b0 : ((l0.length : Int) == 64) = false := beq_eq_false_iff_ne.mpr c2
  have c2b1 : ((l0.length : Int) != 64) = true := bne_iff_ne.mpr c2
  obtain rfl := Option.some.inj H
  go_enter Tryz.func68, Tryz.ntmps68
  go_wp2
  go_ret
  exact ⟨by first | rfl | (simp; done) | (simp [*]; done), by repeat (first | exact Drawn0.refl _ | apply Drawn0.step)⟩
 rw [if_pos c2] at H
 have c2b0 : ((l0.length : Int) == 64) = true := beq_iff_eq.mpr c2
 have c2b1 : ((l0.length : Int) != 64) = false := bne_eq_false_iff_eq.mpr c2
 clear c2
 replace H := Option.bind_eq_some_iff.mp H
 obtain ⟨t340, A30, H⟩ := H
 try dsimp only at H
 have A3 := zA A30
 clear A30
 obtain rfl := Option.some.inj H
 go_enter Tryz.func68, Tryz.ntmps68
 go_wp2_with (first | (go_at_call 65; (with_reducible refine (impl_allWithin.calls k _ _ l0 (-16383) 16383 t340 _ ?side1 ?side2 A3.out).mono ?_); (case side1 => repeat (first | exact HR0.out | (with_reducible refine yH ?_ _) | (with_reducible refine yF ?_ _) | (with_reducible refine yG ?_))); (case side2 => exact HC0.out); rintro e w' ⟨rfl, ⟨nd, rfl⟩⟩))
 go_ret
 exact ⟨by first | rfl | (simp; done) | (simp [*]; done), by repeat (first | exact Drawn0.refl _ | apply Drawn0.step)⟩
end Go.Proofs.YtilimpjcdeeaiaaGreat.G


namespace Go.Proofs.YtilimpjcdeeaiaaGreat.G
open Go.RowKit Go.Proofs.YtilimpjcdeeaiaaGreatW.PrintWords Go.Proofs.YtilimpjcdeeaiaaGreatW.PrintLast Go.Proofs.YtilimpjcdeeaiaaGreatW.PrintMore
attribute [local go_sem] max2_int min2_int max_two min_two max_three min_three max_four min_four   -- for this text's walks alone
def impl_Frame_size.f (k : Nat) (a0_0 : Int) (a0_1 : Int) (a0_2 : Int) (a0_3 : Int) (l0_4 : List (S53)) (a1 : Int) : Option (Int × Int) := (impl_Frame_most.f k a0_0 a0_1 a0_2 a0_3 l0_4).bind fun bt342 => (if 0 ≤ a1 then (if a1 < (l0_4.length : Int) then ((impl_up.f (wrap64 (a0_1 * ((rd_T53 l0_4 a1).f1))) bt342.1).bind fun t345 => ((impl_up.f (wrap64 (a0_2 * ((rd_T53 l0_4 a1).f2))) bt342.2).bind fun t347 => (some (t345, t347)))) else (none)) else (none))
set_option maxHeartbeats 8000000 in
set_option maxRecDepth 100000 in
theorem impl_Frame_size.calls (k : Nat) (a0_0 : Int) (a0_1 : Int) (a0_2 : Int) (a0_3 : Int) (A0_4 : Option Addr) (c0_4 : Nat) (l0_4 : List (S53)) (a1 : Int) (r1 : Int) (r2 : Int) (w : World) (hr0_4 : Kd.C k53 w A0_4 l0_4.length l0_4) (hc0_4 : l0_4.length ≤ c0_4) (h : impl_Frame_size.f k a0_0 a0_1 a0_2 a0_3 l0_4 a1 = some (r1, r2)) :
  Calls Tryz.prog 94 #[.agg #[.int .i64 a0_0, .int .i64 a0_1, .int .i64 a0_2, .int .i64 a0_3, .slice A0_4 l0_4.length c0_4], .int .i64 a1] w fun e w' => e = .returned (.tuple #[.int .i64 r1, .int .i64 r2]) ∧ Below w.heap.size w w' := by
 have hu37 := Tryz.underlying37
 have HR0_4 := zA hr0_4
 have HC0_4 := zA hc0_4
 clear hr0_4 hc0_4
 have HB := zA (Below.refl w.heap.size w)
 have H : ((impl_Frame_most.f k a0_0 a0_1 a0_2 a0_3 l0_4).bind fun bt342 => (if 0 ≤ a1 then (if a1 < (l0_4.length : Int) then ((impl_up.f (wrap64 (a0_1 * ((rd_T53 l0_4 a1).f1))) bt342.1).bind fun t345 => ((impl_up.f (wrap64 (a0_2 * ((rd_T53 l0_4 a1).f2))) bt342.2).bind fun t347 => (some (t345, t347)))) else (none)) else (none))) = some (r1, r2) := h
 clear h
 replace H := Option.bind_eq_some_iff.mp H
 obtain ⟨⟨t342, t343⟩, A30, H⟩ := H
 try dsimp only at H
 have A3 := zA A30
 clear A30
 by_cases c4 : 0 ≤ a1
 rotate_left
 ·rw [if_neg c4] at H
  exact absurd H (by simp)
 rw [if_pos c4] at H
 have c4b0 := zT c4
 clear c4
 by_cases c5 : a1 < (l0_4.length : Int)
 rotate_left
 ·rw [if_neg c5] at H
  exact absurd H (by simp)
 rw [if_pos c5] at H
 have c5b0 := zT c5
 clear c5
 replace H := Option.bind_eq_some_iff.mp H
 obtain ⟨t345, A60, H⟩ := H
 try dsimp only at H
 have A6 := zA A60
 clear A60
 replace H := Option.bind_eq_some_iff.mp H
 obtain ⟨t347, A70, H⟩ := H
 try dsimp only at H
 have A7 := zA A70
 clear A70
 simp only [Option.some.injEq, Prod.mk.injEq] at H
 obtain ⟨rfl, rfl⟩ := H
 go_enter Tryz.func94, Tryz.ntmps94
 go_wp2_with (first | ((with_reducible refine gate_dst (N := 2) rfl ?_); refine nxX (N := 2) (cs := #[.int .i64 a0_0, .int .i64 a0_1, .int .i64 a0_2, .int .i64 a0_3, .slice A0_4 l0_4.length c0_4]) (t := 37) ?_; intro gb341 hg w8 hbox hb; have BK341 := zA (hbox); have GE341 := nxG HB hg; replace HB := nxH hb HB; clear hb hbox hg; obtain ⟨hcz9_0, hcz9_1, hcz9_2, hcz9_3, hcz9_4⟩ := cz5 BK341) | (go_at_call 92; (with_reducible refine (impl_Frame_most.calls k a0_0 a0_1 a0_2 a0_3 _ _ l0_4 t342 t343 _ ?side1 ?side2 A3.out).mono ?_); (case side1 => exact nxC HR0_4 HB); (case side2 => exact HC0_4.out); rintro e w10 ⟨rfl, hb⟩; replace BK341 := nxB hb BK341; replace HB := nxH hb HB; (try clear hb); (try clear hb2); (try clear hk); (try clear hi); obtain ⟨hcz11_0, hcz11_1, hcz11_2, hcz11_3, hcz11_4⟩ := cz5 BK341; have p344 : 0 ≤ (a1 : Int) := zI (by first | (with_reducible assumption) | assumption); have q344 : a1 < (l0_4.length : Int) := zI (by first | (with_reducible assumption) | assumption); obtain ⟨ad344, e344, hx344_0, hx344_1, hx344_2, hx344_3⟩ := at_T53 HR0_4.out a1 p344 q344; cases e344; replace hx344_0 := (HB.out.cell (World.block_lt_of_cell? w _ hx344_0)).trans hx344_0; replace hx344_1 := (HB.out.cell (World.block_lt_of_cell? w _ hx344_1)).trans hx344_1; replace hx344_2 := (HB.out.cell (World.block_lt_of_cell? w _ hx344_2)).trans hx344_2; replace hx344_3 := (HB.out.cell (World.block_lt_of_cell? w _ hx344_3)).trans hx344_3; replace p344 := eq_true p344; replace q344 := eq_true q344) | (go_at_call 93; (with_reducible refine (impl_up.calls (wrap64 (a0_1 * ((rd_T53 l0_4 a1).f1))) t342 t345 _ A6.out).mono ?_); rintro e w' ⟨rfl, ⟨nd, rfl⟩⟩; (try first | exact ⟨rfl, _, World.drewN_drewN _ _ _⟩ | exact ⟨rfl, _, Eq.trans (World.drewN_drewN _ _ _) (congrArg (World.drewN _) (Nat.add_assoc _ _ _))⟩); try (have p346 : 0 ≤ (a1 : Int) := zI (by first | (with_reducible assumption) | assumption); have q346 : a1 < (l0_4.length : Int) := zI (by first | (with_reducible assumption) | assumption); obtain ⟨ad346, e346, hx346_0, hx346_1, hx346_2, hx346_3⟩ := at_T53 HR0_4.out a1 p346 q346; obtain rfl : ad344 = ad346 := (by injection e346); replace hx346_0 := (HB.out.cell (World.block_lt_of_cell? w _ hx346_0)).trans hx346_0; replace hx346_1 := (HB.out.cell (World.block_lt_of_cell? w _ hx346_1)).trans hx346_1; replace hx346_2 := (HB.out.cell (World.block_lt_of_cell? w _ hx346_2)).trans hx346_2; replace hx346_3 := (HB.out.cell (World.block_lt_of_cell? w _ hx346_3)).trans hx346_3; replace p346 := eq_true p346; replace q346 := eq_true q346)) | (go_at_call 93; (with_reducible refine (impl_up.calls (wrap64 (a0_2 * ((rd_T53 l0_4 a1).f2))) t343 t347 _ A7.out).mono ?_); rintro e w' ⟨rfl, ⟨nd, rfl⟩⟩; (try first | exact ⟨rfl, _, World.drewN_drewN _ _ _⟩ | exact ⟨rfl, _, Eq.trans (World.drewN_drewN _ _ _) (congrArg (World.drewN _) (Nat.add_assoc _ _ _))⟩)))
 repeat (go_quiet (first | ((with_reducible refine gate_dst (N := 2) rfl ?_); refine nxX (N := 2) (cs := #[.int .i64 a0_0, .int .i64 a0_1, .int .i64 a0_2, .int .i64 a0_3, .slice A0_4 l0_4.length c0_4]) (t := 37) ?_; intro gb341 hg w8 hbox hb; have BK341 := zA (hbox); have GE341 := nxG HB hg; replace HB := nxH hb HB; clear hb hbox hg; obtain ⟨hcz9_0, hcz9_1, hcz9_2, hcz9_3, hcz9_4⟩ := cz5 BK341) | (go_at_call 92; (with_reducible refine (impl_Frame_most.calls k a0_0 a0_1 a0_2 a0_3 _ _ l0_4 t342 t343 _ ?side1 ?side2 A3.out).mono ?_); (case side1 => exact nxC HR0_4 HB); (case side2 => exact HC0_4.out); rintro e w10 ⟨rfl, hb⟩; replace BK341 := nxB hb BK341; replace HB := nxH hb HB; (try clear hb); (try clear hb2); (try clear hk); (try clear hi); obtain ⟨hcz11_0, hcz11_1, hcz11_2, hcz11_3, hcz11_4⟩ := cz5 BK341; have p344 : 0 ≤ (a1 : Int) := zI (by first | (with_reducible assumption) | assumption); have q344 : a1 < (l0_4.length : Int) := zI (by first | (with_reducible assumption) | assumption); obtain ⟨ad344, e344, hx344_0, hx344_1, hx344_2, hx344_3⟩ := at_T53 HR0_4.out a1 p344 q344; cases e344; replace hx344_0 := (HB.out.cell (World.block_lt_of_cell? w _ hx344_0)).trans hx344_0; replace hx344_1 := (HB.out.cell (World.block_lt_of_cell? w _ hx344_1)).trans hx344_1; replace hx344_2 := (HB.out.cell (World.block_lt_of_cell? w _ hx344_2)).trans hx344_2; replace hx344_3 := (HB.out.cell (World.block_lt_of_cell? w _ hx344_3)).trans hx344_3; replace p344 := eq_true p344; replace q344 := eq_true q344) | (go_at_call 93; (with_reducible refine (impl_up.calls (wrap64 (a0_1 * ((rd_T53 l0_4 a1).f1))) t342 t345 _ A6.out).mono ?_); rintro e w' ⟨rfl, ⟨nd, rfl⟩⟩; (try first | exact ⟨rfl, _, World.drewN_drewN _ _ _⟩ | exact ⟨rfl, _, Eq.trans (World.drewN_drewN _ _ _) (congrArg (World.drewN _) (Nat.add_assoc _ _ _))⟩); try (have p346 : 0 ≤ (a1 : Int) := zI (by first | (with_reducible assumption) | assumption); have q346 : a1 < (l0_4.length : Int) := zI (by first | (with_reducible assumption) | assumption); obtain ⟨ad346, e346, hx346_0, hx346_1, hx346_2, hx346_3⟩ := at_T53 HR0_4.out a1 p346 q346; obtain rfl : ad344 = ad346 := (by injection e346); replace hx346_0 := (HB.out.cell (World.block_lt_of_cell? w _ hx346_0)).trans hx346_0; replace hx346_1 := (HB.out.cell (World.block_lt_of_cell? w _ hx346_1)).trans hx346_1; replace hx346_2 := (HB.out.cell (World.block_lt_of_cell? w _ hx346_2)).trans hx346_2; replace hx346_3 := (HB.out.cell (World.block_lt_of_cell? w _ hx346_3)).trans hx346_3; replace p346 := eq_true p346; replace q346 := eq_true q346)) | (go_at_call 93; (with_reducible refine (impl_up.calls (wrap64 (a0_2 * ((rd_T53 l0_4 a1).f2))) t343 t347 _ A7.out).mono ?_); rintro e w' ⟨rfl, ⟨nd, rfl⟩⟩; (try first | exact ⟨rfl, _, World.drewN_drewN _ _ _⟩ | exact ⟨rfl, _, Eq.trans (World.drewN_drewN _ _ _) (congrArg (World.drewN _) (Nat.add_assoc _ _ _))⟩))); try go_wp2_with (first | ((with_reducible refine gate_dst (N := 2) rfl ?_); refine nxX (N := 2) (cs := #[.int .i64 a0_0, .int .i64 a0_1, .int .i64 a0_2, .int .i64 a0_3, .slice A0_4 l0_4.length c0_4]) (t := 37) ?_; intro gb341 hg w8 hbox hb; have BK341 := zA (hbox); have GE341 := nxG HB hg; replace HB := nxH hb HB; clear hb hbox hg; obtain ⟨hcz9_0, hcz9_1, hcz9_2, hcz9_3, hcz9_4⟩ := cz5 BK341) | (go_at_call 92; (with_reducible refine (impl_Frame_most.calls k a0_0 a0_1 a0_2 a0_3 _ _ l0_4 t342 t343 _ ?side1 ?side2 A3.out).mono ?_); (case side1 => exact nxC HR0_4 HB); (case side2 => exact HC0_4.out); rintro e w10 ⟨rfl, hb⟩; replace BK341 := nxB hb BK341; replace HB := nxH hb HB; (try clear hb); (try clear hb2); (try clear hk); (try clear hi); obtain ⟨hcz11_0, hcz11_1, hcz11_2, hcz11_3, hcz11_4⟩ := cz5 BK341; have p344 : 0 ≤ (a1 : Int) := zI (by first | (with_reducible assumption) | assumption); have q344 : a1 < (l0_4.length : Int) := zI (by first | (with_reducible assumption) | assumption); obtain ⟨ad344, e344, hx344_0, hx344_1, hx344_2, hx344_3⟩ := at_T53 HR0_4.out a1 p344 q344; cases e344; replace hx344_0 := (HB.out.cell (World.block_lt_of_cell? w _ hx344_0)).trans hx344_0; replace hx344_1 := (HB.out.cell (World.block_lt_of_cell? w _ hx344_1)).trans hx344_1; replace hx344_2 := (HB.out.cell (World.block_lt_of_cell? w _ hx344_2)).trans hx344_2; replace hx344_3 := (HB.out.cell (World.block_lt_of_cell? w _ hx344_3)).trans hx344_3; replace p344 := eq_true p344; replace q344 := eq_true q344) | (go_at_call 93; (with_reducible refine (impl_up.calls (wrap64 (a0_1 * ((rd_T53 l0_4 a1).f1))) t342 t345 _ A6.out).mono ?_); rintro e w' ⟨rfl, ⟨nd, rfl⟩⟩; (try first | exact ⟨rfl, _, World.drewN_drewN _ _ _⟩ | exact ⟨rfl, _, Eq.trans (World.drewN_drewN _ _ _) (congrArg (World.drewN _) (Nat.add_assoc _ _ _))⟩); try (have p346 : 0 ≤ (a1 : Int) := zI (by first | (with_reducible assumption) | assumption); have q346 : a1 < (l0_4.length : Int) := zI (by first | (with_reducible assumption) | assumption); obtain ⟨ad346, e346, hx346_0, hx346_1, hx346_2, hx346_3⟩ := at_T53 HR0_4.out a1 p346 q346; obtain rfl : ad344 = ad346 := (by injection e346); replace hx346_0 := (HB.out.cell (World.block_lt_of_cell? w _ hx346_0)).trans hx346_0; replace hx346_1 := (HB.out.cell (World.block_lt_of_cell? w _ hx346_1)).trans hx346_1; replace hx346_2 := (HB.out.cell (World.block_lt_of_cell? w _ hx346_2)).trans hx346_2; replace hx346_3 := (HB.out.cell (World.block_lt_of_cell? w _ hx346_3)).trans hx346_3; replace p346 := eq_true p346; replace q346 := eq_true q346)) | (go_at_call 93; (with_reducible refine (impl_up.calls (wrap64 (a0_2 * ((rd_T53 l0_4 a1).f2))) t343 t347 _ A7.out).mono ?_); rintro e w' ⟨rfl, ⟨nd, rfl⟩⟩; (try first | exact ⟨rfl, _, World.drewN_drewN _ _ _⟩ | exact ⟨rfl, _, Eq.trans (World.drewN_drewN _ _ _) (congrArg (World.drewN _) (Nat.add_assoc _ _ _))⟩))))
 go_ret2
 exact ⟨rfl, by repeat (first | (with_reducible first | exact HB.out | apply zC | apply zB | apply zF | refine zE ?_ GE341.out) | exact HB.out)⟩
end Go.Proofs.YtilimpjcdeeaiaaGreat.G


namespace Go.Proofs.YtilimpjcdeeaiaaGreat.G
open Go.RowKit Go.Proofs.YtilimpjcdeeaiaaGreatW.PrintWords Go.Proofs.YtilimpjcdeeaiaaGreatW.PrintLast Go.Proofs.YtilimpjcdeeaiaaGreatW.PrintMore
attribute [local go_sem] max2_int min2_int max_two min_two max_three min_three max_four min_four   -- for this text's walks alone
def impl_Frame_needed.f (k : Nat) (a0_0 : Int) (a0_1 : Int) (a0_2 : Int) (a0_3 : Int) (l0_4 : List (S53)) (a1 : Int) : Option (Int × Int) := (impl_Frame_size.f k a0_0 a0_1 a0_2 a0_3 l0_4 a1).bind fun bt349 => ((impl_up.f bt349.1 8).bind fun t351 => ((impl_up.f bt349.2 8).bind fun t352 => (some (t351, t352))))
set_option maxHeartbeats 8000000 in
set_option maxRecDepth 100000 in
theorem impl_Frame_needed.calls (k : Nat) (a0_0 : Int) (a0_1 : Int) (a0_2 : Int) (a0_3 : Int) (A0_4 : Option Addr) (c0_4 : Nat) (l0_4 : List (S53)) (a1 : Int) (r1 : Int) (r2 : Int) (w : World) (hr0_4 : Kd.C k53 w A0_4 l0_4.length l0_4) (hc0_4 : l0_4.length ≤ c0_4) (h : impl_Frame_needed.f k a0_0 a0_1 a0_2 a0_3 l0_4 a1 = some (r1, r2)) :
  Calls Tryz.prog 79 #[.agg #[.int .i64 a0_0, .int .i64 a0_1, .int .i64 a0_2, .int .i64 a0_3, .slice A0_4 l0_4.length c0_4], .int .i64 a1] w fun e w' => e = .returned (.tuple #[.int .i64 r1, .int .i64 r2]) ∧ Below w.heap.size w w' := by
 have hu37 := Tryz.underlying37
 have HR0_4 := zA hr0_4
 have HC0_4 := zA hc0_4
 clear hr0_4 hc0_4
 have HB := zA (Below.refl w.heap.size w)
 have H : ((impl_Frame_size.f k a0_0 a0_1 a0_2 a0_3 l0_4 a1).bind fun bt349 => ((impl_up.f bt349.1 8).bind fun t351 => ((impl_up.f bt349.2 8).bind fun t352 => (some (t351, t352))))) = some (r1, r2) := h
 clear h
 replace H := Option.bind_eq_some_iff.mp H
 obtain ⟨⟨t349, t350⟩, A30, H⟩ := H
 try dsimp only at H
 have A3 := zA A30
 clear A30
 replace H := Option.bind_eq_some_iff.mp H
 obtain ⟨t351, A40, H⟩ := H
 try dsimp only at H
 have A4 := zA A40
 clear A40
 replace H := Option.bind_eq_some_iff.mp H
 obtain ⟨t352, A50, H⟩ := H
 try dsimp only at H
 have A5 := zA A50
 clear A50
 simp only [Option.some.injEq, Prod.mk.injEq] at H
 obtain ⟨rfl, rfl⟩ := H
 go_enter Tryz.func79, Tryz.ntmps79
 go_wp2_with (first | ((with_reducible refine gate_dst (N := 2) rfl ?_); refine nxX (N := 2) (cs := #[.int .i64 a0_0, .int .i64 a0_1, .int .i64 a0_2, .int .i64 a0_3, .slice A0_4 l0_4.length c0_4]) (t := 37) ?_; intro gb348 hg w6 hbox hb; have n0_ := nxH hb HB; have n1_ := zA (hbox); clear HB; have HB := n0_; have BK348 := n1_; clear n0_ n1_ ; clear hb hbox hg; obtain ⟨hcz7_0, hcz7_1, hcz7_2, hcz7_3, hcz7_4⟩ := cz5 BK348) | ((with_reducible refine gate_callee (f := 94) rfl ?_); refine goesL_ (some 11) rfl rfl Tryz.func94 (by kernel_rfl) rfl #[.agg #[.int .i64 a0_0, .int .i64 a0_1, .int .i64 a0_2, .int .i64 a0_3, .slice A0_4 l0_4.length c0_4], .int .i64 a1] rfl (by (try simp only [zU, zV, zW]); first | done | rfl | (simp only [zR, zQ]; rfl)) ?_; (with_reducible refine (impl_Frame_size.calls k a0_0 a0_1 a0_2 a0_3 _ _ l0_4 a1 t349 t350 _ ?side1 ?side2 A3.out).mono ?_); (case side1 => exact nxC HR0_4 HB); (case side2 => exact HC0_4.out); rintro e w8 ⟨rfl, hb⟩; refine ⟨_, rfl, ?_⟩; replace BK348 := nxB hb BK348; replace HB := nxH hb HB; (try clear hb); (try clear hb2); (try clear hk); (try clear hi)) | ((with_reducible refine gate_callee (f := 93) rfl ?_); refine goesL_ (some 15) rfl rfl Tryz.func93 (by kernel_rfl) rfl #[.int .i64 t349, .int .i64 8] rfl (by (try simp only [zU, zV, zW]); first | done | rfl | (simp only [zR, zQ]; rfl)) ?_; (with_reducible refine (impl_up.calls t349 8 t351 _ A4.out).mono ?_); rintro e w' ⟨rfl, ⟨nd, rfl⟩⟩; refine ⟨_, rfl, ?_⟩) | ((with_reducible refine gate_callee (f := 93) rfl ?_); refine goesL_ (some 17) rfl rfl Tryz.func93 (by kernel_rfl) rfl #[.int .i64 t350, .int .i64 8] rfl (by (try simp only [zU, zV, zW]); first | done | rfl | (simp only [zR, zQ]; rfl)) ?_; (with_reducible refine (impl_up.calls t350 8 t352 _ A5.out).mono ?_); rintro e w' ⟨rfl, ⟨nd, rfl⟩⟩; refine ⟨_, rfl, ?_⟩))
 go_ret2
 exact ⟨rfl, nxD HB⟩
end Go.Proofs.YtilimpjcdeeaiaaGreat.G


namespace Go.Proofs.YtilimpjcdeeaiaaGreat.G
open Go.RowKit Go.Proofs.YtilimpjcdeeaiaaGreatW.PrintWords Go.Proofs.YtilimpjcdeeaiaaGreatW.PrintLast Go.Proofs.YtilimpjcdeeaiaaGreatW.PrintMore
attribute [local go_sem] max2_int min2_int max_two min_two max_three min_three max_four min_four   -- for this text's walks alone
def impl_Frame_isHidden.f (k : Nat) (a0_0 : Int) (a0_1 : Int) (a0_2 : Int) (a0_3 : Int) (l0_4 : List (S53)) (a1 : Int) (a2 : Int) (a3 : Int) : Option (Bool) := (impl_Frame_needed.f k a0_0 a0_1 a0_2 a0_3 l0_4 a1).bind fun bt354 => (if a2 ≥ bt354.2 then (some true) else (some (decide (a3 ≥ bt354.1))))
set_option maxHeartbeats 8000000 in
set_option maxRecDepth 100000 in
theorem impl_Frame_isHidden.calls (k : Nat) (a0_0 : Int) (a0_1 : Int) (a0_2 : Int) (a0_3 : Int) (A0_4 : Option Addr) (c0_4 : Nat) (l0_4 : List (S53)) (a1 : Int) (a2 : Int) (a3 : Int) (r : Bool) (w : World) (hr0_4 : Kd.C k53 w A0_4 l0_4.length l0_4) (hc0_4 : l0_4.length ≤ c0_4) (h : impl_Frame_isHidden.f k a0_0 a0_1 a0_2 a0_3 l0_4 a1 a2 a3 = some r) :
  Calls Tryz.prog 69 #[.agg #[.int .i64 a0_0, .int .i64 a0_1, .int .i64 a0_2, .int .i64 a0_3, .slice A0_4 l0_4.length c0_4], .int .i64 a1, .int .i64 a2, .int .i64 a3] w fun e w' => e = .returned (.bool r) ∧ Below w.heap.size w w' := by
 have hu37 := Tryz.underlying37
 have HR0_4 := zA hr0_4
 have HC0_4 := zA hc0_4
 clear hr0_4 hc0_4
 have HB := zA (Below.refl w.heap.size w)
 have H : ((impl_Frame_needed.f k a0_0 a0_1 a0_2 a0_3 l0_4 a1).bind fun bt354 => (if a2 ≥ bt354.2 then (some true) else (some (decide (a3 ≥ bt354.1))))) = some r := h
 clear h
 replace H := Option.bind_eq_some_iff.mp H
 obtain ⟨⟨t354, t355⟩, A50, H⟩ := H
 try dsimp only at H
 have A5 := zA A50
 clear A50
 by_cases c6 : a2 ≥ t355
 ·rw [if_pos c6] at H
  have c6b0 := zT c6
  clear c6
  obtain rfl := Option.some.inj H
  go_enter Tryz.func69, Tryz.ntmps69
  go_wp2_with (first | ((with_reducible refine gate_dst (N := 4) rfl ?_); refine nxX (N := 4) (cs := #[.int .i64 a0_0, .int .i64 a0_1, .int .i64 a0_2, .int .i64 a0_3, .slice A0_4 l0_4.length c0_4]) (t := 37) ?_; intro gb353 hg w7 hbox hb; have n0_ := nxH hb HB; have n1_ := zA (hbox); clear HB; have HB := n0_; have BK353 := n1_; clear n0_ n1_ ; clear hb hbox hg; obtain ⟨hcz8_0, hcz8_1, hcz8_2, hcz8_3, hcz8_4⟩ := cz5 BK353) | ((with_reducible refine gate_callee (f := 79) rfl ?_); refine goesL_ (some 14) rfl rfl Tryz.func79 (by kernel_rfl) rfl #[.agg #[.int .i64 a0_0, .int .i64 a0_1, .int .i64 a0_2, .int .i64 a0_3, .slice A0_4 l0_4.length c0_4], .int .i64 a1] rfl (by (try simp only [zU, zV, zW]); first | done | rfl | (simp only [zR, zQ]; rfl)) ?_; (with_reducible refine (impl_Frame_needed.calls k a0_0 a0_1 a0_2 a0_3 _ _ l0_4 a1 t354 t355 _ ?side1 ?side2 A5.out).mono ?_); (case side1 => exact nxC HR0_4 HB); (case side2 => exact HC0_4.out); rintro e w9 ⟨rfl, hb⟩; refine ⟨_, rfl, ?_⟩; replace BK353 := nxB hb BK353; replace HB := nxH hb HB; (try clear hb); (try clear hb2); (try clear hk); (try clear hi)))
  go_ret
  exact ⟨rfl, nxD HB⟩
 rw [if_neg c6] at H
 have c6b0 := decide_eq_false c6
 clear c6
 obtain rfl := Option.some.inj H
 go_enter Tryz.func69, Tryz.ntmps69
 go_wp2_with (first | ((with_reducible refine gate_dst (N := 4) rfl ?_); refine nxX (N := 4) (cs := #[.int .i64 a0_0, .int .i64 a0_1, .int .i64 a0_2, .int .i64 a0_3, .slice A0_4 l0_4.length c0_4]) (t := 37) ?_; intro gb353 hg w10 hbox hb; have n0_ := nxH hb HB; have n1_ := zA (hbox); clear HB; have HB := n0_; have BK353 := n1_; clear n0_ n1_ ; clear hb hbox hg; obtain ⟨hcz11_0, hcz11_1, hcz11_2, hcz11_3, hcz11_4⟩ := cz5 BK353) | ((with_reducible refine gate_callee (f := 79) rfl ?_); refine goesL_ (some 14) rfl rfl Tryz.func79 (by kernel_rfl) rfl #[.agg #[.int .i64 a0_0, .int .i64 a0_1, .int .i64 a0_2, .int .i64 a0_3, .slice A0_4 l0_4.length c0_4], .int .i64 a1] rfl (by (try simp only [zU, zV, zW]); first | done | rfl | (simp only [zR, zQ]; rfl)) ?_; (with_reducible refine (impl_Frame_needed.calls k a0_0 a0_1 a0_2 a0_3 _ _ l0_4 a1 t354 t355 _ ?side1 ?side2 A5.out).mono ?_); (case side1 => exact nxC HR0_4 HB); (case side2 => exact HC0_4.out); rintro e w12 ⟨rfl, hb⟩; refine ⟨_, rfl, ?_⟩; replace BK353 := nxB hb BK353; replace HB := nxH hb HB; (try clear hb); (try clear hb2); (try clear hk); (try clear hi)))
 go_ret
 exact ⟨rfl, nxD HB⟩
end Go.Proofs.YtilimpjcdeeaiaaGreat.G


namespace Go.Proofs.YtilimpjcdeeaiaaGreat.G
open Go.RowKit Go.Proofs.YtilimpjcdeeaiaaGreatW.PrintWords Go.Proofs.YtilimpjcdeeaiaaGreatW.PrintLast Go.Proofs.YtilimpjcdeeaiaaGreatW.PrintMore
attribute [local go_sem] max2_int min2_int max_two min_two max_three min_three max_four min_four   -- for this text's walks alone
mutual
def impl_CoefsOk.j0 : Nat → Bool → Int → Int → Int → Int → List (S53) → List (List (List Int)) → Option (Bool)
 | 0, _, _, _, _, _, _, _ => none
 | k + 1, x22, x357000, x357001, x357002, x357003, x357004, x358000 => if x22 = true then (some false) else (impl_CoefsOk.l0 k x358000 (x358000.length : Int) 0 x357000 x357001 x357002 x357003 x357004)
def impl_CoefsOk.l0 : Nat → List (List (List Int)) → Int → Int → Int → Int → Int → Int → List (S53) → Option (Bool)
 | 0, _, _, _, _, _, _, _, _ => none
 | k + 1, x24, x25, x26, x357000, x357001, x357002, x357003, x357004 => if x26 < x25 then (if 0 ≤ x26 then (if x26 < (x24.length : Int) then ((impl_Frame_blocks.f k x357000 x357001 x357002 x357003 x357004 x26).bind fun bt360 => (if ((rd_L3 x24 x26).length : Int) = (wrap64 (bt360.1 * bt360.2)) then (impl_CoefsOk.l1 k x26 bt360.1 x24 x25 x26 (rd_L3 x24 x26) ((rd_L3 x24 x26).length : Int) 0 x357000 x357001 x357002 x357003 x357004) else (some false))) else (none)) else (none)) else (some true)
def impl_CoefsOk.l1 : Nat → Int → Int → List (List (List Int)) → Int → Int → List (List Int) → Int → Int → Int → Int → Int → Int → List (S53) → Option (Bool)
 | 0, _, _, _, _, _, _, _, _, _, _, _, _, _ => none
 | k + 1, x5, x7, x24, x25, x26, x43, x44, x45, x357000, x357001, x357002, x357003, x357004 => if x45 < x44 then (if 0 ≤ x45 then (if x45 < (x43.length : Int) then ((impl_isLevels.f k (rd_L2 x43 x45)).bind fun t363 => (if t363 = true then (if x7 = 0 then (none) else ((impl_Frame_isHidden.f k x357000 x357001 x357002 x357003 x357004 x5 (wrap64 (Int.tdiv x45 x7)) (Int.tmod x45 x7)).bind fun t364 => (if t364 = true then ((impl_allWithin.f k (rd_L2 x43 x45) 0 0).bind fun t365 => (if t365 = true then (impl_CoefsOk.l1 k x5 x7 x24 x25 x26 x43 x44 (wrap64 (x45 + 1)) x357000 x357001 x357002 x357003 x357004) else (some false))) else (impl_CoefsOk.l1 k x5 x7 x24 x25 x26 x43 x44 (wrap64 (x45 + 1)) x357000 x357001 x357002 x357003 x357004)))) else (some false))) else (none)) else (none)) else (impl_CoefsOk.l0 k x24 x25 (wrap64 (x26 + 1)) x357000 x357001 x357002 x357003 x357004)
end
def impl_CoefsOk.f (k : Nat) (a0_0 : Int) (a0_1 : Int) (a0_2 : Int) (a0_3 : Int) (l0_4 : List (S53)) (l1_0 : List (List (List Int))) : Option (Bool) := (impl_FrameOk.f a0_0 a0_1 a0_2 a0_3 l0_4).bind fun t358 => (if t358 = true then (impl_CoefsOk.j0 k ((l1_0.length : Int) != (l0_4.length : Int)) a0_0 a0_1 a0_2 a0_3 l0_4 l1_0) else (impl_CoefsOk.j0 k true a0_0 a0_1 a0_2 a0_3 l0_4 l1_0))
def impl_CoefsOk.T12 : Bool × List (List Nat × List Nat) := (true, [([], []), ([0], [0]), ([1], [1]), ([2, 1], [2]), ([3], [3]), ([3], [3]), ([3], [3]), ([3], [3]), ([6, 7, 3], [3, 6, 7]), ([3], [3]), ([3], [3]), ([9, 10, 3], [3, 9, 10]), ([4, 5, 8, 11, 3, 3], [3, 4, 5, 8, 11]), ([12, 12, 3], [3, 12]), ([13], [13]), ([14, 13, 13], [13, 14]), ([15, 13], [13, 15]), ([13, 16, 3], [3, 13, 16]), ([3, 17], [3, 17])])
def impl_CoefsOk.B12 : List Nat := [0, 1, 3, 7, 15, 15, 15, 15, 207, 15, 15, 1551, 4095, 8191, 16383, 32767, 65535, 131071, 262143]
theorem impl_CoefsOk.tab12 : rtab .any (opsOf Tryz.f48 12) = impl_CoefsOk.T12 := by kernel_rfl
theorem impl_CoefsOk.bits12 : waitsOk impl_CoefsOk.T12.2 impl_CoefsOk.B12 = true := by kernel_rfl
set_option maxHeartbeats 8000000 in
set_option maxRecDepth 100000 in
theorem impl_CoefsOk.calls (k : Nat) (a0_0 : Int) (a0_1 : Int) (a0_2 : Int) (a0_3 : Int) (A0_4 : Option Addr) (c0_4 : Nat) (l0_4 : List (S53)) (A1_0 : Option Addr) (c1_0 : Nat) (l1_0 : List (List (List Int))) (r : Bool) (w : World) (hr0_4 : Kd.C k53 w A0_4 l0_4.length l0_4) (hc0_4 : l0_4.length ≤ c0_4) (hr1_0 : Kd.C (Kd.slice 66 (Kd.slice 3 (Kd.int .i64))) w A1_0 l1_0.length l1_0) (hc1_0 : l1_0.length ≤ c1_0) (h : impl_CoefsOk.f k a0_0 a0_1 a0_2 a0_3 l0_4 l1_0 = some r) :
  Calls Tryz.prog 48 #[.agg #[.int .i64 a0_0, .int .i64 a0_1, .int .i64 a0_2, .int .i64 a0_3, .slice A0_4 l0_4.length c0_4], .agg #[.slice A1_0 l1_0.length c1_0]] w fun e w' => e = .returned (.bool r) ∧ Below w.heap.size w w' := by
 have hu37 := Tryz.underlying37
 have hu38 := Tryz.underlying38
 have HR0_4 := zA hr0_4
 have HC0_4 := zA hc0_4
 clear hr0_4 hc0_4
 have HR1_0 := zA hr1_0
 have HC1_0 := zA hc1_0
 clear hr1_0 hc1_0
 have HB := zA (Below.refl w.heap.size w)
 have H : ((impl_FrameOk.f a0_0 a0_1 a0_2 a0_3 l0_4).bind fun t358 => (if t358 = true then (impl_CoefsOk.j0 k ((l1_0.length : Int) != (l0_4.length : Int)) a0_0 a0_1 a0_2 a0_3 l0_4 l1_0) else (impl_CoefsOk.j0 k true a0_0 a0_1 a0_2 a0_3 l0_4 l1_0))) = some r := h
 clear h
 have HC3 := zA H
 clear H
 go_enter Tryz.func48, Tryz.ntmps48
 go_upto_region 1 with (first | ((with_reducible refine gate_dst (N := 2) rfl ?_); refine nxX (N := 2) (cs := #[.int .i64 a0_0, .int .i64 a0_1, .int .i64 a0_2, .int .i64 a0_3, .slice A0_4 l0_4.length c0_4]) (t := 37) ?_; intro gb356 hg w4 hbox hb; have BK356 := zA (hbox); have GE356 := nxG HB hg; replace HB := nxH hb HB; clear hb hbox hg) | ((with_reducible refine gate_dst (N := 3) rfl ?_); refine nxX (N := 3) (cs := #[.slice A1_0 l1_0.length c1_0]) (t := 38) ?_; intro gb357 hg w5 hbox hb; have BK357 := zA (hbox); have GE357 := nxG HB hg; have NB356_357 := nxL BK356 hg; have NB357_356 := nxK BK356 hg; replace BK356 := nxB hb BK356; replace HB := nxH hb HB; clear hb hbox hg))
 (try simp only [Act.put, List.setIfInBounds_toArray, List.set_cons_zero, List.set_cons_succ])
 go_cut [22] (fun v22 wc => ∃ (kq : Nat) (x22_2 : Bool), v22 = .bool x22_2 ∧ Aside0 (impl_CoefsOk.j0 kq x22_2 a0_0 a0_1 a0_2 a0_3 l0_4 l1_0 = some r) ∧ Aside0 (kq ≤ k) ∧ Aside0 (wc.heap[gb356]? = some (.cells #[.int .i64 a0_0, .int .i64 a0_1, .int .i64 a0_2, .int .i64 a0_3, (.slice A0_4 l0_4.length c0_4)] 37 (0, 0))) ∧ Aside0 (wc.heap[gb357]? = some (.cells #[(.slice A1_0 l1_0.length c1_0)] 38 (0, 0))) ∧ Aside0 (Below w.heap.size w wc))
 case first =>
  have H := HC3.out
  clear HC3
  replace H := Option.bind_eq_some_iff.mp H
  obtain ⟨t358, A60, H⟩ := H
  try dsimp only at H
  have A6 := zA A60
  clear A60
  by_cases c7 : t358 = true
  ·subst c7
   rw [if_pos rfl] at H
   have H' := zA H
   clear H
   have hnb8 := NB356_357.out
   have hnc8 := NB357_356.out
   obtain ⟨hcz9_0, hcz9_1, hcz9_2, hcz9_3, hcz9_4⟩ := cz5 BK356
   go_wp2_with (first | ((with_reducible refine gate_callee (f := 66) rfl ?_); refine goesL_ (some 12) rfl rfl Tryz.func66 (by kernel_rfl) rfl #[.agg #[.int .i64 a0_0, .int .i64 a0_1, .int .i64 a0_2, .int .i64 a0_3, .slice A0_4 l0_4.length c0_4]] rfl (by (try simp only [zU, zV, zW]); first | done | rfl | (simp only [zR, zQ]; rfl)) ?_; (with_reducible refine (impl_FrameOk.calls a0_0 a0_1 a0_2 a0_3 _ _ l0_4 true _ ?side1 ?side2 A6.out).mono ?_); (case side1 => exact nxC HR0_4 HB); (case side2 => exact HC0_4.out); rintro e w10 ⟨rfl, hb⟩; refine ⟨_, rfl, ?_⟩; replace BK356 := nxB hb BK356; replace BK357 := nxB hb BK357; replace HB := nxH hb HB; (try clear hb); (try clear hb2); (try clear hk); (try clear hi); have hcz11_0 : w10.cell? ⟨gb357, 0, none⟩ = some (.slice A1_0 l1_0.length c1_0) := (zK BK357.out 0).trans rfl; obtain ⟨hcz12_0, hcz12_1, hcz12_2, hcz12_3, hcz12_4⟩ := cz5 BK356))
   go_meet
   case rel => exact ⟨_, (((l1_0.length : Int) != (l0_4.length : Int))), rfl, H', ⟨Nat.le_refl _⟩, ⟨BK356.out⟩, ⟨BK357.out⟩, ⟨nxD HB⟩⟩
  ·replace c7 := Bool.eq_false_iff.mpr c7
   subst c7
   rw [if_neg (show ¬ (false = true) by decide)] at H
   have H' := zA H
   clear H
   have hnb13 := NB356_357.out
   have hnc13 := NB357_356.out
   obtain ⟨hcz14_0, hcz14_1, hcz14_2, hcz14_3, hcz14_4⟩ := cz5 BK356
   go_wp2_with (first | ((with_reducible refine gate_callee (f := 66) rfl ?_); refine goesL_ (some 12) rfl rfl Tryz.func66 (by kernel_rfl) rfl #[.agg #[.int .i64 a0_0, .int .i64 a0_1, .int .i64 a0_2, .int .i64 a0_3, .slice A0_4 l0_4.length c0_4]] rfl (by (try simp only [zU, zV, zW]); first | done | rfl | (simp only [zR, zQ]; rfl)) ?_; (with_reducible refine (impl_FrameOk.calls a0_0 a0_1 a0_2 a0_3 _ _ l0_4 false _ ?side1 ?side2 A6.out).mono ?_); (case side1 => exact nxC HR0_4 HB); (case side2 => exact HC0_4.out); rintro e w15 ⟨rfl, hb⟩; refine ⟨_, rfl, ?_⟩; replace BK356 := nxB hb BK356; replace BK357 := nxB hb BK357; replace HB := nxH hb HB; (try clear hb); (try clear hb2); (try clear hk); (try clear hi)))
   go_meet
   case rel => exact ⟨_, (true), rfl, H', ⟨Nat.le_refl _⟩, ⟨BK356.out⟩, ⟨BK357.out⟩, ⟨nxD HB⟩⟩
 case rest =>
  clear HC3
  obtain ⟨kq, x22_2, rfl, HA, HJ2, BK356, BK357, HB⟩ := hcut
  cases kq with
  | zero => exact absurd HA.out (by simp [impl_CoefsOk.j0])
  | succ kj2 =>
   have H := HA.out
   clear HA
   simp only [impl_CoefsOk.j0] at H
   by_cases c16 : x22_2 = true
   ·subst c16
    rw [if_pos rfl] at H
    obtain rfl := Option.some.inj H
    go_wp2
    go_ret
    exact ⟨rfl, nxD HB⟩
   ·replace c16 := Bool.eq_false_iff.mpr c16
    subst c16
    rw [if_neg (show ¬ (false = true) by decide)] at H
    have H' := zA H
    clear H
    have hnb17 := NB357_356.out
    have hnc17 := NB356_357.out
    have hcz18_0 : wc.cell? ⟨gb357, 0, none⟩ = some (.slice A1_0 l1_0.length c1_0) := (zK BK357.out 0).trans rfl
    go_wp2
    go_loopg [26] kj2 (fun kq v26 w' => ∃ (x26_2 : Int), v26 = .int .i64 x26_2 ∧ Aside0 (impl_CoefsOk.l0 kq l1_0 (l1_0.length : Int) x26_2 a0_0 a0_1 a0_2 a0_3 l0_4 = some r) ∧ Aside0 (kq ≤ kj2) ∧ Aside0 (w'.heap[gb356]? = some (.cells #[.int .i64 a0_0, .int .i64 a0_1, .int .i64 a0_2, .int .i64 a0_3, (.slice A0_4 l0_4.length c0_4)] 37 (0, 0))) ∧ Aside0 (w'.heap[gb357]? = some (.cells #[(.slice A1_0 l1_0.length c1_0)] 38 (0, 0))) ∧ Aside0 (Below w.heap.size w w'))
    case atStart => exact ⟨(0), rfl, H', ⟨Nat.le_refl _⟩, ⟨BK356.out⟩, ⟨BK357.out⟩, ⟨nxD HB⟩⟩
    case round =>
     clear H'
     obtain ⟨x26_2, rfl, HA, HK2, BK356, BK357, HB⟩ := hrel
     cases gk with
     | zero => exact absurd HA.out (by simp [impl_CoefsOk.l0])
     | succ k2 =>
      have H := HA.out
      clear HA
      simp only [impl_CoefsOk.l0] at H
      by_cases c19 : x26_2 < (l1_0.length : Int)
      ·rw [if_pos c19] at H
       have c19b0 := zT c19
       clear c19
       by_cases c20 : 0 ≤ x26_2
       ·rw [if_pos c20] at H
        have c20b0 := zT c20
        clear c20
        by_cases c21 : x26_2 < (l1_0.length : Int)
        ·rw [if_pos c21] at H
         have c21b0 := zT c21
         clear c21
         replace H := Option.bind_eq_some_iff.mp H
         obtain ⟨⟨t360, t361⟩, A220, H⟩ := H
         try dsimp only at H
         have A22 := zA A220
         clear A220
         have HF23 := zA H
         clear H
         have p359 : 0 ≤ (x26_2 : Int) := zI (by first | (with_reducible assumption) | assumption)
         have q359 : x26_2 < (l1_0.length : Int) := zI (by first | (with_reducible assumption) | assumption)
         obtain ⟨ad359, A359_0, c359_0, e359, hx359_0, hl359_0, hi359_0⟩ := at_L3 HR1_0.out x26_2 p359 q359
         cases e359
         replace hx359_0 := (HB.out.cell (World.block_lt_of_cell? w _ hx359_0)).trans hx359_0
         have HR359_0 := zA hi359_0
         have HC359_0 := zA hl359_0
         clear hi359_0 hl359_0
         replace p359 := eq_true p359
         replace q359 := eq_true q359
         have hnb24 := NB356_357.out
         have hnc24 := NB357_356.out
         obtain ⟨hcz25_0, hcz25_1, hcz25_2, hcz25_3, hcz25_4⟩ := cz5 BK356
         go_upto_if 42 with (first | ((with_reducible refine gate_callee (f := 67) rfl ?_); refine goesL_ (some 34) rfl rfl Tryz.func67 (by kernel_rfl) rfl #[.agg #[.int .i64 a0_0, .int .i64 a0_1, .int .i64 a0_2, .int .i64 a0_3, .slice A0_4 l0_4.length c0_4], .int .i64 x26_2] rfl (by (try simp only [zU, zV, zW]); first | done | rfl | (simp only [zR, zQ]; rfl)) ?_; (with_reducible refine (impl_Frame_blocks.calls k2 a0_0 a0_1 a0_2 a0_3 _ _ l0_4 x26_2 t360 t361 _ ?side1 ?side2 A22.out).mono ?_); (case side1 => exact nxC HR0_4 HB); (case side2 => exact HC0_4.out); rintro e w26 ⟨rfl, hb⟩; refine ⟨_, rfl, ?_⟩; replace BK356 := nxB hb BK356; replace BK357 := nxB hb BK357; replace HB := nxH hb HB; (try clear hb); (try clear hb2); (try clear hk); (try clear hi)))
         have H := HF23.out
         clear HF23
         by_cases c27 : ((rd_L3 l1_0 x26_2).length : Int) = (wrap64 (t360 * t361))
         ·rw [if_pos c27] at H
          have c27b0 : (((rd_L3 l1_0 x26_2).length : Int) == (wrap64 (t360 * t361))) = true := beq_iff_eq.mpr c27
          have c27b1 : (((rd_L3 l1_0 x26_2).length : Int) != (wrap64 (t360 * t361))) = false := bne_eq_false_iff_eq.mpr c27
          clear c27
          (first | rw [c27b0] | rw [c27b1] | (simp only [i64_w, i32_w]; first | rw [c27b0] | rw [c27b1]) | skip)
          have H' := zA H
          clear H
          go_wp2
          go_loopg [45] k2 (fun kq v45 w' => ∃ (x45_3 : Int), v45 = .int .i64 x45_3 ∧ Aside0 (impl_CoefsOk.l1 kq x26_2 t360 l1_0 (l1_0.length : Int) x26_2 (rd_L3 l1_0 x26_2) ((rd_L3 l1_0 x26_2).length : Int) x45_3 a0_0 a0_1 a0_2 a0_3 l0_4 = some r) ∧ Aside0 (kq ≤ k2) ∧ Aside0 (w'.heap[gb356]? = some (.cells #[.int .i64 a0_0, .int .i64 a0_1, .int .i64 a0_2, .int .i64 a0_3, (.slice A0_4 l0_4.length c0_4)] 37 (0, 0))) ∧ Aside0 (w'.heap[gb357]? = some (.cells #[(.slice (some ad359) l1_0.length c1_0)] 38 (0, 0))) ∧ Aside0 (Below w.heap.size w w'))
          case atStart => exact ⟨(0), rfl, H', ⟨Nat.le_refl _⟩, ⟨BK356.out⟩, ⟨BK357.out⟩, ⟨nxD HB⟩⟩
          case round =>
           clear H'
           obtain ⟨x45_3, rfl, HA, HK3, BK356, BK357, HB⟩ := hrel
           cases gk with
           | zero => exact absurd HA.out (by simp [impl_CoefsOk.l1])
           | succ k3 =>
            have H := HA.out
            clear HA
            simp only [impl_CoefsOk.l1] at H
            by_cases c28 : x45_3 < ((rd_L3 l1_0 x26_2).length : Int)
            ·rw [if_pos c28] at H
             have c28b0 := zT c28
             clear c28
             by_cases c29 : 0 ≤ x45_3
             ·rw [if_pos c29] at H
              have c29b0 := zT c29
              clear c29
              by_cases c30 : x45_3 < ((rd_L3 l1_0 x26_2).length : Int)
              ·rw [if_pos c30] at H
               have c30b0 := zT c30
               clear c30
               replace H := Option.bind_eq_some_iff.mp H
               obtain ⟨t363, A310, H⟩ := H
               try dsimp only at H
               have A31 := zA A310
               clear A310
               by_cases c32 : t363 = true
               ·subst c32
                rw [if_pos rfl] at H
                by_cases c33 : t360 = 0
                ·rw [if_pos c33] at H
                 exact absurd H (by simp)
                ·rw [if_neg c33] at H
                 have c33b0 : (t360 == 0) = false := beq_eq_false_iff_ne.mpr c33
                 have c33b1 : (t360 != 0) = true := bne_iff_ne.mpr c33
                 replace H := Option.bind_eq_some_iff.mp H
                 obtain ⟨t364, A340, H⟩ := H
                 try dsimp only at H
                 have A34 := zA A340
                 clear A340
                 by_cases c35 : t364 = true
                 ·subst c35
                  rw [if_pos rfl] at H
                  replace H := Option.bind_eq_some_iff.mp H
                  obtain ⟨t365, A360, H⟩ := H
                  try dsimp only at H
                  have A36 := zA A360
                  clear A360
                  have HF37 := zA H
                  clear H
                  have p362 : 0 ≤ (x45_3 : Int) := zI (by first | (with_reducible assumption) | assumption)
                  have q362 : x45_3 < ((rd_L3 l1_0 x26_2).length : Int) := zI (by first | (with_reducible assumption) | assumption)
                  obtain ⟨ad362, A362_0, c362_0, e362, hx362_0, hl362_0, hi362_0⟩ := at_L2 HR359_0.out x45_3 p362 q362
                  cases e362
                  replace hx362_0 := (HB.out.cell (World.block_lt_of_cell? w _ hx362_0)).trans hx362_0
                  have HR362_0 := zA hi362_0
                  have HC362_0 := zA hl362_0
                  clear hi362_0 hl362_0
                  replace p362 := eq_true p362
                  replace q362 := eq_true q362
                  try go_wp2
                  replace BK356 := zA (zH BK356.out)
                  replace BK357 := zA (zH BK357.out)
                  replace HB := zA (zF HB.out)
                  refine start_ (n := 19) (S := fun w' => w'.cell? ⟨gb356, 0, none⟩ = some (.int .i64 a0_0) ∧ w'.cell? ⟨gb356, 1, none⟩ = some (.int .i64 a0_1) ∧ w'.cell? ⟨gb356, 2, none⟩ = some (.int .i64 a0_2) ∧ w'.cell? ⟨gb356, 3, none⟩ = some (.int .i64 a0_3) ∧ w'.cell? ⟨gb356, 4, none⟩ = some (.slice A0_4 l0_4.length c0_4)) (ds := []) #[false, false, false, false, false, false, false, false, false, false, false, false, false, false, false, false, false, false, false] (by kernel_rfl) rfl rfl (cz5 BK356) (fun hHeld => ?_); refine with_tabW impl_CoefsOk.tab12 impl_CoefsOk.bits12 (fun HT_ HW_ => ?_)
                  generalize wr.drew = w38 at BK356 BK357 HB hHeld ⊢
                  refine nxY 0 50 HT_ rfl rfl ?_
                  refine nxO 1 51 HT_ rfl rfl (fun K hK => ?_)
                  refine goes_ Tryz.func68 (by kernel_rfl) rfl #[.slice A362_0 (rd_L2 (rd_L3 l1_0 x26_2) x45_3).length c362_0] (by rfl) rfl rfl (by (try simp only [zU, zV, zW]); first | done | rfl | (simp only [zR, zQ]; rfl)) ?_
                  with_reducible refine (impl_isLevels.calls k3 _ _ (rd_L2 (rd_L3 l1_0 x26_2) x45_3) true _ ?side1 ?side2 A31.out).mono ?_
                  (case side1 => exact nxC HR362_0 HB)
                  (case side2 => exact HC362_0.out)
                  rintro e w' ⟨rfl, ⟨nd, rfl⟩⟩
                  refine ⟨_, rfl, ?_⟩
                  refine hK.out _ _ (cz5 BK356) (fun hHeld => ?_)
                  clear hK K
                  refine nxZ 51 ?_
                  refine nxY 2 52 HT_ rfl rfl ?_
                  refine nxY 3 53 HT_ rfl rfl ?_
                  refine nxY 5 55 HT_ rfl rfl ?_
                  refine nxY 6 56 HT_ rfl rfl ?_
                  refine nxY 7 57 HT_ rfl rfl ?_
                  refine nxY 8 58 HT_ rfl rfl ?_
                  refine nxY 9 59 HT_ rfl rfl ?_
                  refine nxY 10 60 HT_ rfl rfl ?_
                  refine nxY 11 61 HT_ rfl rfl ?_
                  refine nxW 4 54 HT_ HW_ hHeld rfl rfl ?_
                  refine nxO 12 62 HT_ rfl rfl (fun K hK => ?_)
                  refine goes_ Tryz.func69 (by kernel_rfl) rfl #[.agg #[.int .i64 a0_0, .int .i64 a0_1, .int .i64 a0_2, .int .i64 a0_3, .slice A0_4 l0_4.length c0_4], .int .i64 x26_2, .int .i64 (wrap64 (Int.tdiv x45_3 t360)), .int .i64 (Int.tmod x45_3 t360)] (by rfl) rfl rfl (by (try simp only [zU, zV, zW]); first | done | rfl | (simp only [zR, zQ]; rfl)) ?_
                  with_reducible refine (impl_Frame_isHidden.calls k3 a0_0 a0_1 a0_2 a0_3 _ _ l0_4 x26_2 (wrap64 (Int.tdiv x45_3 t360)) (Int.tmod x45_3 t360) true _ ?side1 ?side2 A34.out).mono ?_
                  (case side1 => repeat (first | exact (Kd.C_below HR0_4.out (by repeat (first | (with_reducible first | exact HB.out | apply zC | apply zB | apply zF | refine zE ?_ GE356.out | refine zE ?_ GE357.out) | exact HB.out))) | (with_reducible refine yH ?_ _) | (with_reducible refine yF ?_ _) | (with_reducible refine yG ?_)))
                  (case side2 => exact HC0_4.out)
                  rintro e w39 ⟨rfl, hb⟩
                  refine ⟨_, rfl, ?_⟩
                  replace BK356 := nxB hb BK356
                  replace BK357 := nxB hb BK357
                  replace HB := nxH hb HB
                  refine hK.out _ _ (cz5 BK356) (fun hHeld => ?_)
                  clear hK K
                  refine nxZ 62 ?_
                  refine nxY 13 63 HT_ rfl rfl ?_
                  refine nxY 14 64 HT_ rfl rfl ?_
                  refine nxO 15 65 HT_ rfl rfl (fun K hK => ?_)
                  refine goes_ Tryz.func65 (by kernel_rfl) rfl #[.slice A362_0 (rd_L2 (rd_L3 l1_0 x26_2) x45_3).length c362_0, .int .i64 0, .int .i64 0] (by rfl) rfl rfl (by (try simp only [zU, zV, zW]); first | done | rfl | (simp only [zR, zQ]; rfl)) ?_
                  with_reducible refine (impl_allWithin.calls k3 _ _ (rd_L2 (rd_L3 l1_0 x26_2) x45_3) 0 0 t365 _ ?side1 ?side2 A36.out).mono ?_
                  (case side1 => exact nxC HR362_0 HB)
                  (case side2 => exact HC362_0.out)
                  rintro e w' ⟨rfl, ⟨nd, rfl⟩⟩
                  refine ⟨_, rfl, ?_⟩
                  refine hK.out _ _ (cz5 BK356) (fun hHeld => ?_)
                  clear hK K
                  refine nxZ 65 ?_
                  refine nxY 16 66 HT_ rfl rfl ?_
                  refine nxY 17 67 HT_ rfl rfl ?_
                  refine nxY 18 68 HT_ rfl rfl ?_
                  refine done_ (done_of HT_.out (by kernel_rfl)) ?_
                  go_upto_if 68 with (fail)
                  have H := HF37.out
                  clear HF37
                  by_cases c40 : t365 = true
                  ·subst c40
                   rw [if_pos rfl] at H
                   have H' := zA H
                   clear H
                   go_wp2
                   go_roundg k3
                   case measure => have := HJ2.out; have := HK2.out; have := HK3.out; omega
                   case rel => exact ⟨(wrap64 (x45_3 + 1)), rfl, H', ⟨by have := HJ2.out; have := HK2.out; have := HK3.out; omega⟩, ⟨BK356.out⟩, ⟨BK357.out⟩, ⟨nxD HB⟩⟩
                  ·replace c40 := Bool.eq_false_iff.mpr c40
                   subst c40
                   rw [if_neg (show ¬ (false = true) by decide)] at H
                   obtain rfl := Option.some.inj H
                   go_wp2
                   go_ret
                   exact ⟨rfl, nxD HB⟩
                 ·replace c35 := Bool.eq_false_iff.mpr c35
                  subst c35
                  rw [if_neg (show ¬ (false = true) by decide)] at H
                  have H' := zA H
                  clear H
                  have p362 : 0 ≤ (x45_3 : Int) := zI (by first | (with_reducible assumption) | assumption)
                  have q362 : x45_3 < ((rd_L3 l1_0 x26_2).length : Int) := zI (by first | (with_reducible assumption) | assumption)
                  obtain ⟨ad362, A362_0, c362_0, e362, hx362_0, hl362_0, hi362_0⟩ := at_L2 HR359_0.out x45_3 p362 q362
                  cases e362
                  replace hx362_0 := (HB.out.cell (World.block_lt_of_cell? w _ hx362_0)).trans hx362_0
                  have HR362_0 := zA hi362_0
                  have HC362_0 := zA hl362_0
                  clear hi362_0 hl362_0
                  replace p362 := eq_true p362
                  replace q362 := eq_true q362
                  try go_wp2
                  replace BK356 := zA (zH BK356.out)
                  replace BK357 := zA (zH BK357.out)
                  replace HB := zA (zF HB.out)
                  refine start_ (n := 19) (S := fun w' => w'.cell? ⟨gb356, 0, none⟩ = some (.int .i64 a0_0) ∧ w'.cell? ⟨gb356, 1, none⟩ = some (.int .i64 a0_1) ∧ w'.cell? ⟨gb356, 2, none⟩ = some (.int .i64 a0_2) ∧ w'.cell? ⟨gb356, 3, none⟩ = some (.int .i64 a0_3) ∧ w'.cell? ⟨gb356, 4, none⟩ = some (.slice A0_4 l0_4.length c0_4)) (ds := []) #[false, false, false, false, false, false, false, false, false, false, false, false, false, false, false, false, false, false, false] (by kernel_rfl) rfl rfl (cz5 BK356) (fun hHeld => ?_); refine with_tabW impl_CoefsOk.tab12 impl_CoefsOk.bits12 (fun HT_ HW_ => ?_)
                  generalize wr.drew = w41 at BK356 BK357 HB hHeld ⊢
                  refine nxY 0 50 HT_ rfl rfl ?_
                  refine nxO 1 51 HT_ rfl rfl (fun K hK => ?_)
                  refine goes_ Tryz.func68 (by kernel_rfl) rfl #[.slice A362_0 (rd_L2 (rd_L3 l1_0 x26_2) x45_3).length c362_0] (by rfl) rfl rfl (by (try simp only [zU, zV, zW]); first | done | rfl | (simp only [zR, zQ]; rfl)) ?_
                  with_reducible refine (impl_isLevels.calls k3 _ _ (rd_L2 (rd_L3 l1_0 x26_2) x45_3) true _ ?side1 ?side2 A31.out).mono ?_
                  (case side1 => exact nxC HR362_0 HB)
                  (case side2 => exact HC362_0.out)
                  rintro e w' ⟨rfl, ⟨nd, rfl⟩⟩
                  refine ⟨_, rfl, ?_⟩
                  refine hK.out _ _ (cz5 BK356) (fun hHeld => ?_)
                  clear hK K
                  refine nxZ 51 ?_
                  refine nxY 2 52 HT_ rfl rfl ?_
                  refine nxY 3 53 HT_ rfl rfl ?_
                  refine nxY 5 55 HT_ rfl rfl ?_
                  refine nxY 6 56 HT_ rfl rfl ?_
                  refine nxY 7 57 HT_ rfl rfl ?_
                  refine nxY 8 58 HT_ rfl rfl ?_
                  refine nxY 9 59 HT_ rfl rfl ?_
                  refine nxY 10 60 HT_ rfl rfl ?_
                  refine nxY 11 61 HT_ rfl rfl ?_
                  refine nxW 4 54 HT_ HW_ hHeld rfl rfl ?_
                  refine nxO 12 62 HT_ rfl rfl (fun K hK => ?_)
                  refine goes_ Tryz.func69 (by kernel_rfl) rfl #[.agg #[.int .i64 a0_0, .int .i64 a0_1, .int .i64 a0_2, .int .i64 a0_3, .slice A0_4 l0_4.length c0_4], .int .i64 x26_2, .int .i64 (wrap64 (Int.tdiv x45_3 t360)), .int .i64 (Int.tmod x45_3 t360)] (by rfl) rfl rfl (by (try simp only [zU, zV, zW]); first | done | rfl | (simp only [zR, zQ]; rfl)) ?_
                  with_reducible refine (impl_Frame_isHidden.calls k3 a0_0 a0_1 a0_2 a0_3 _ _ l0_4 x26_2 (wrap64 (Int.tdiv x45_3 t360)) (Int.tmod x45_3 t360) false _ ?side1 ?side2 A34.out).mono ?_
                  (case side1 => repeat (first | exact (Kd.C_below HR0_4.out (by repeat (first | (with_reducible first | exact HB.out | apply zC | apply zB | apply zF | refine zE ?_ GE356.out | refine zE ?_ GE357.out) | exact HB.out))) | (with_reducible refine yH ?_ _) | (with_reducible refine yF ?_ _) | (with_reducible refine yG ?_)))
                  (case side2 => exact HC0_4.out)
                  rintro e w42 ⟨rfl, hb⟩
                  refine ⟨_, rfl, ?_⟩
                  replace BK356 := nxB hb BK356
                  replace BK357 := nxB hb BK357
                  replace HB := nxH hb HB
                  refine hK.out _ _ (cz5 BK356) (fun hHeld => ?_)
                  clear hK K
                  refine nxZ 62 ?_
                  refine nxY 13 63 HT_ rfl rfl ?_
                  refine nxV 14 64 HT_ rfl rfl ?_
                  refine nxV 15 65 HT_ rfl rfl ?_
                  refine nxV 16 66 HT_ rfl rfl ?_
                  refine nxY 17 67 HT_ rfl rfl ?_
                  refine nxY 18 68 HT_ rfl rfl ?_
                  refine done_ (done_of HT_.out (by kernel_rfl)) ?_
                  try go_wp2
                  go_roundg k3
                  case measure => have := HJ2.out; have := HK2.out; have := HK3.out; omega
                  case rel => exact ⟨(wrap64 (x45_3 + 1)), rfl, H', ⟨by have := HJ2.out; have := HK2.out; have := HK3.out; omega⟩, ⟨BK356.out⟩, ⟨BK357.out⟩, ⟨nxD HB⟩⟩
               ·replace c32 := Bool.eq_false_iff.mpr c32
                subst c32
                rw [if_neg (show ¬ (false = true) by decide)] at H
                obtain rfl := Option.some.inj H
                have p362 : 0 ≤ (x45_3 : Int) := zI (by first | (with_reducible assumption) | assumption)
                have q362 : x45_3 < ((rd_L3 l1_0 x26_2).length : Int) := zI (by first | (with_reducible assumption) | assumption)
                obtain ⟨ad362, A362_0, c362_0, e362, hx362_0, hl362_0, hi362_0⟩ := at_L2 HR359_0.out x45_3 p362 q362
                cases e362
                replace hx362_0 := (HB.out.cell (World.block_lt_of_cell? w _ hx362_0)).trans hx362_0
                have HR362_0 := zA hi362_0
                have HC362_0 := zA hl362_0
                clear hi362_0 hl362_0
                replace p362 := eq_true p362
                replace q362 := eq_true q362
                try go_wp2
                replace BK356 := zA (zH BK356.out)
                replace BK357 := zA (zH BK357.out)
                replace HB := zA (zF HB.out)
                refine start_ (n := 19) (S := fun w' => True) (ds := []) #[false, false, false, false, false, false, false, false, false, false, false, false, false, false, false, false, false, false, false] (by kernel_rfl) rfl rfl trivial (fun hHeld => ?_); refine with_tabW impl_CoefsOk.tab12 impl_CoefsOk.bits12 (fun HT_ HW_ => ?_)
                generalize wr.drew = w43 at BK356 BK357 HB hHeld ⊢
                refine nxY 0 50 HT_ rfl rfl ?_
                refine nxO 1 51 HT_ rfl rfl (fun K hK => ?_)
                refine goes_ Tryz.func68 (by kernel_rfl) rfl #[.slice A362_0 (rd_L2 (rd_L3 l1_0 x26_2) x45_3).length c362_0] (by rfl) rfl rfl (by (try simp only [zU, zV, zW]); first | done | rfl | (simp only [zR, zQ]; rfl)) ?_
                with_reducible refine (impl_isLevels.calls k3 _ _ (rd_L2 (rd_L3 l1_0 x26_2) x45_3) false _ ?side1 ?side2 A31.out).mono ?_
                (case side1 => exact nxC HR362_0 HB)
                (case side2 => exact HC362_0.out)
                rintro e w' ⟨rfl, ⟨nd, rfl⟩⟩
                refine ⟨_, rfl, ?_⟩
                refine hK.out _ _ trivial (fun hHeld => ?_)
                clear hK K
                refine nxZ 51 ?_
                refine nxY 2 52 HT_ rfl rfl ?_
                refine nxY 3 53 HT_ rfl rfl ?_
                refine nxV 4 54 HT_ rfl rfl ?_
                refine nxV 5 55 HT_ rfl rfl ?_
                refine nxV 6 56 HT_ rfl rfl ?_
                refine nxV 7 57 HT_ rfl rfl ?_
                refine nxV 8 58 HT_ rfl rfl ?_
                refine nxV 9 59 HT_ rfl rfl ?_
                refine nxV 10 60 HT_ rfl rfl ?_
                refine nxV 11 61 HT_ rfl rfl ?_
                refine nxV 12 62 HT_ rfl rfl ?_
                refine nxV 13 63 HT_ rfl rfl ?_
                refine nxV 14 64 HT_ rfl rfl ?_
                refine nxV 15 65 HT_ rfl rfl ?_
                refine nxV 16 66 HT_ rfl rfl ?_
                refine nxV 17 67 HT_ rfl rfl ?_
                refine nxY 18 68 HT_ rfl rfl ?_
                refine done_ (done_of HT_.out (by kernel_rfl)) ?_
                try go_wp2
                go_ret
                exact ⟨rfl, nxD HB⟩
              ·rw [if_neg c30] at H
               exact absurd H (by simp)
             ·rw [if_neg c29] at H
              exact absurd H (by simp)
            ·rw [if_neg c28] at H
             have c28b0 := decide_eq_false c28
             clear c28
             have H' := zA H
             clear H
             go_wp2
             go_roundg k3
             case measure => have := HJ2.out; have := HK2.out; have := HK3.out; omega
             case rel => exact ⟨(wrap64 (x26_2 + 1)), rfl, H', ⟨by have := HJ2.out; have := HK2.out; have := HK3.out; omega⟩, ⟨BK356.out⟩, ⟨BK357.out⟩, ⟨nxD HB⟩⟩
         ·rw [if_neg c27] at H
          have c27b0 : (((rd_L3 l1_0 x26_2).length : Int) == (wrap64 (t360 * t361))) = false := beq_eq_false_iff_ne.mpr c27
          have c27b1 : (((rd_L3 l1_0 x26_2).length : Int) != (wrap64 (t360 * t361))) = true := bne_iff_ne.mpr c27
          (first | rw [c27b0] | rw [c27b1] | (simp only [i64_w, i32_w]; first | rw [c27b0] | rw [c27b1]) | skip)
          obtain rfl := Option.some.inj H
          go_wp2
          go_ret
          exact ⟨rfl, nxD HB⟩
        ·rw [if_neg c21] at H
         exact absurd H (by simp)
       ·rw [if_neg c20] at H
        exact absurd H (by simp)
      ·rw [if_neg c19] at H
       have c19b0 := decide_eq_false c19
       clear c19
       obtain rfl := Option.some.inj H
       go_wp2
       go_ret
       exact ⟨rfl, nxD HB⟩
theorem impl_up.val (n d : Int) (h1 : 1 ≤ n) (h2 : n ≤ 100000) (h3 : 1 ≤ d) (h4 : d ≤ 100000) : impl_up.f n d = some (upM n d) := by
 have := upM_in n d h1 h3
 unfold impl_up.f
 rw [if_neg (by omega), wrap_in (n + d) (by omega) (by omega), wrap_in (n + d - 1) (by omega) (by omega)]
 unfold upM at this ⊢
 rw [wrap_in _ (by omega) (by omega)]
theorem impl_Frame_most.l0_ev (p w h r : Int) (l : List SC) (hn : l.length ≤ 4) : ∀ (d i : Nat) (a b : Int), i + d = l.length → Ev (fun k => impl_Frame_most.l0 k a b l (l.length : Int) (i : Int)) ((l.drop i).foldl (fun a c => mx a c.f1) a, (l.drop i).foldl (fun a c => mx a c.f2) b) := by
 intro d
 induction d with
 | zero =>
  intro i a b hi
  refine Ev.step (fun _ => by rw [impl_Frame_most.l0]) (Ev.ng (by omega) (Ev.eq (Ev.now _) ?_))
  rw [List.drop_of_length_le (by omega)]; rfl
 | succ d ih =>
  intro i a b hi
  have hlt : i < l.length := by omega
  refine Ev.step (fun _ => by rw [impl_Frame_most.l0]) (Ev.ip (by omega) (Ev.ip (by omega) (Ev.ip (by omega) ?_)))
  rw [rdC_nat l i hlt, wrap_succ i (by omega), List.drop_eq_getElem_cons hlt]
  exact ih (i + 1) _ _ (by omega)
theorem impl_Frame_most.ev (p w h r : Int) (l : List SC) (hn : l.length ≤ 4) : Ev (fun k => impl_Frame_most.f k p w h r l) (fhM l, fvM l) := impl_Frame_most.l0_ev p w h r l hn l.length 0 1 1 (by omega)
theorem impl_Frame_size.ev {p w h r : Int} {l : List SC} (q : Fr w h l) (i : Nat) (hi : i < l.length) : Ev (fun k => impl_Frame_size.f k p w h r l (i : Int)) (upM (w * l[i].f1) (fhM l), upM (h * l[i].f2) (fvM l)) := by
 have c := compOk_of (q.c l[i] (List.getElem_mem hi))
 have a := mul_4 w l[i].f1 256 q.w1 q.w2 c.2.1.1 c.2.1.2
 have b := mul_4 h l[i].f2 256 q.h1 q.h2 c.2.2.1.1 c.2.2.1.2
 have e1 := q.hm
 have e2 := q.vm
 unfold impl_Frame_size.f
 refine Ev.bind (impl_Frame_most.ev p w h r l q.n2) (Ev.ip (by omega) (Ev.ip (by omega) ?_))
 rw [rdC_nat l i hi, wrap_in (w * l[i].f1) (by omega) (by omega), wrap_in (h * l[i].f2) (by omega) (by omega)]
 exact Ev.bind (Ev.c (impl_up.val _ _ a.1 (by omega) e1.1 (by omega))) (Ev.bind (Ev.c (impl_up.val _ _ b.1 (by omega) e2.1 (by omega))) (Ev.now _))
theorem impl_Frame_units.ev {p w h r : Int} {l : List SC} (q : Fr w h l) : Ev (fun k => impl_Frame_units.f k p w h r l) (upM w (8 * fhM l), upM h (8 * fvM l)) := by
 have e1 := q.hm
 have e2 := q.vm
 have a1 := q.w1
 have a2 := q.w2
 have a3 := q.h1
 have a4 := q.h2
 unfold impl_Frame_units.f
 refine Ev.bind (impl_Frame_most.ev p w h r l q.n2) ?_
 rw [wrap_in (8 * fhM l) (by omega) (by omega), wrap_in (8 * fvM l) (by omega) (by omega)]
 exact Ev.bind (Ev.c (impl_up.val _ _ (by omega) (by omega) (by omega) (by omega))) (Ev.bind (Ev.c (impl_up.val _ _ (by omega) (by omega) (by omega) (by omega))) (Ev.now _))
theorem impl_Frame_blocks.ev {p w h r : Int} {l : List SC} (q : Fr w h l) (i : Nat) (hi : i < l.length) : Ev (fun k => impl_Frame_blocks.f k p w h r l (i : Int)) (blkW w l l[i], blkH h l l[i]) := by
 have a := q.bw l[i] (List.getElem_mem hi)
 have b := q.bh l[i] (List.getElem_mem hi)
 unfold impl_Frame_blocks.f
 refine Ev.bind (impl_Frame_units.ev q) (Ev.ip (by omega) (Ev.ip (by omega) ?_))
 unfold blkW at a ⊢
 unfold blkH at b ⊢
 rw [rdC_nat l i hi, wrap_in (upM w (8 * fhM l) * l[i].f1) (by omega) (by omega), wrap_in (upM h (8 * fvM l) * l[i].f2) (by omega) (by omega)]
 exact Ev.now _
theorem impl_Frame_needed.ev {p w h r : Int} {l : List SC} (q : Fr w h l) (i : Nat) (hi : i < l.length) : Ev (fun k => impl_Frame_needed.f k p w h r l (i : Int)) (needW w l l[i], needH h l l[i]) := by
 have c := compOk_of (q.c l[i] (List.getElem_mem hi))
 have a := mul_4 w l[i].f1 256 q.w1 q.w2 c.2.1.1 c.2.1.2
 have b := mul_4 h l[i].f2 256 q.h1 q.h2 c.2.2.1.1 c.2.2.1.2
 have a2 := upM_in _ (fhM l) a.1 q.hm.1
 have b2 := upM_in _ (fvM l) b.1 q.vm.1
 unfold impl_Frame_needed.f
 refine Ev.bind (impl_Frame_size.ev q i hi) ?_
 exact Ev.bind (Ev.c (impl_up.val _ _ a2.1 (by omega) (by omega) (by omega))) (Ev.bind (Ev.c (impl_up.val _ _ b2.1 (by omega) (by omega) (by omega))) (Ev.now _))
theorem impl_Frame_isHidden.ev {p w h r : Int} {l : List SC} (q : Fr w h l) (i : Nat) (hi : i < l.length) (y x : Int) : Ev (fun k => impl_Frame_isHidden.f k p w h r l (i : Int) y x) (decide (needH h l l[i] ≤ y) || decide (needW w l l[i] ≤ x)) := by
 unfold impl_Frame_isHidden.f
 refine Ev.bind (impl_Frame_needed.ev q i hi) ?_
 by_cases e : needH h l l[i] ≤ y
 ·refine Ev.ip e (Ev.eq (Ev.now _) ?_)
  rw [zT e, Bool.true_or]
 ·refine Ev.ng e (Ev.eq (Ev.now _) ?_)
  rw [decide_eq_false e, Bool.false_or]
theorem impl_isLevels.ev (b : List Int) : Ev (fun k => impl_isLevels.f k b) (isLv b) := by
 unfold impl_isLevels.f isLv
 by_cases e : b.length = 64
 ·obtain ⟨k, hk⟩ := impl_allWithin.ev (-16383) 16383 b (by omega)
  rw [zT e, Bool.true_and]
  exact Ev.ip (by omega) (Ev.bind (Ev.of (impl_allWithin.mono b (-16383) 16383) hk) (Ev.now _))
 ·rw [decide_eq_false e]
  exact Ev.ng (by omega) (Ev.now _)
theorem impl_allWithin.zero (b : List Int) (h : b.length = 64) : Ev (fun k => impl_allWithin.f k b 0 0) (allW 0 0 b) := by
 obtain ⟨k, hk⟩ := impl_allWithin.ev 0 0 b (by omega)
 exact Ev.of (impl_allWithin.mono b 0 0) hk
theorem impl_CoefsOk.l1_ev {p w h r : Int} {l : List SC} (q : Fr w h l) (PL : List (List (List Int))) (hn : PL.length = l.length) (i : Nat) (hi : i < l.length) (hiP : i < PL.length) (hlen : (PL[i].length : Int) = blkW w l l[i] * blkH h l l[i]) (b : Bool) (hr : Ev (fun k => impl_CoefsOk.l0 k PL (PL.length : Int) (wrap64 ((i : Int) + 1)) p w h r l) b) :
  ∀ d j : Nat, j + d = PL[i].length → Ev (fun k => impl_CoefsOk.l1 k (i : Int) (blkW w l l[i]) PL (PL.length : Int) (i : Int) PL[i] (PL[i].length : Int) (j : Int) p w h r l) (blocksGo (blkW w l l[i]) (needW w l l[i]) (needH h l l[i]) (PL[i].drop j) j && b) := by
 have hbw := q.bw l[i] (List.getElem_mem hi)
 have har := q.area l[i] (List.getElem_mem hi)
 intro d
 induction d with
 | zero =>
  intro j hj
  refine Ev.step (fun _ => by rw [impl_CoefsOk.l1]) (Ev.ng (by omega) (Ev.eq hr ?_))
  rw [List.drop_of_length_le (by omega)]; rfl
 | succ d ih =>
  intro j hj
  have hjl : j < PL[i].length := by omega
  refine Ev.step (fun _ => by rw [impl_CoefsOk.l1]) (Ev.ip (by omega) (Ev.ip (by omega) (Ev.ip (by omega) ?_)))
  rw [rdL2_nat PL[i] j hjl, List.drop_eq_getElem_cons hjl, blocksGo]
  refine Ev.bind (impl_isLevels.ev PL[i][j]) ?_
  by_cases e1 : isLv PL[i][j] = true
  ·rw [e1, Bool.true_and]
   have e64 : PL[i][j].length = 64 := by
    unfold isLv at e1
    rw [Bool.and_eq_true, decide_eq_true_eq] at e1
    exact e1.1
   have et : Int.tdiv (j : Int) (blkW w l l[i]) ≤ 1048576 ∧ 0 ≤ Int.tdiv (j : Int) (blkW w l l[i]) := by
    rw [Int.tdiv_eq_ediv_of_nonneg (by omega)]
    have := Int.ediv_le_self (a := (j : Int)) (blkW w l l[i]) (by omega)
    have := Int.ediv_nonneg (a := (j : Int)) (b := blkW w l l[i]) (by omega) (by omega)
    omega
   have en : ¬ blkW w l l[i] = 0 := by omega
   refine Ev.ip rfl (Ev.ng en ?_)
   have ej : (j : Int) < 9223372036854775807 := by omega
   rw [wrap_in (Int.tdiv (j : Int) (blkW w l l[i])) (by omega) (by omega), wrap_succ j (by omega)]
   refine Ev.bind (impl_Frame_isHidden.ev q i hi _ _) ?_
   rw [show (decide (needH h l l[i] ≤ Int.tdiv (j : Int) (blkW w l l[i])) || decide (needW w l l[i] ≤ Int.tmod (j : Int) (blkW w l l[i]))) = hidM (blkW w l l[i]) (needW w l l[i]) (needH h l l[i]) j from rfl]
   cases e2 : hidM (blkW w l l[i]) (needW w l l[i]) (needH h l l[i]) j with
   | false => exact Ev.ng (by simp) (Ev.eq (ih (j + 1) (by omega)) (by simp))
   | true =>
    refine Ev.ip rfl (Ev.bind (impl_allWithin.zero PL[i][j] e64) ?_)
    cases e3 : allW 0 0 PL[i][j] with
    | true => exact Ev.ip rfl (Ev.eq (ih (j + 1) (by omega)) (by simp))
    | false => exact Ev.ng (by simp) (Ev.eq (Ev.now _) (by simp))
  ·refine Ev.ng e1 (Ev.eq (Ev.now _) ?_)
   rw [Bool.eq_false_iff.2 e1]; rfl
theorem impl_CoefsOk.l0_ev {p w h r : Int} {l : List SC} (q : Fr w h l) (PL : List (List (List Int))) (hn : PL.length = l.length) : ∀ d i : Nat, i + d = l.length → Ev (fun k => impl_CoefsOk.l0 k PL (PL.length : Int) (i : Int) p w h r l) (planesGo w h l (l.drop i) (PL.drop i)) := by
 intro d
 have h4 := q.n2
 induction d with
 | zero =>
  intro i hi
  refine Ev.step (fun _ => by rw [impl_CoefsOk.l0]) (Ev.ng (by omega) (Ev.eq (Ev.now _) ?_))
  rw [List.drop_of_length_le (by omega)]; rfl
 | succ d ih =>
  intro i hi
  have hlt : i < l.length := by omega
  have hlP : i < PL.length := by omega
  have har := q.area l[i] (List.getElem_mem hlt)
  refine Ev.step (fun _ => by rw [impl_CoefsOk.l0]) (Ev.ip (by omega) (Ev.ip (by omega) (Ev.ip (by omega) (Ev.bind (impl_Frame_blocks.ev q i hlt) ?_))))
  rw [rdL3_nat PL i hlP, wrap_in (blkW w l l[i] * blkH h l l[i]) (by omega) (by omega), List.drop_eq_getElem_cons hlt, List.drop_eq_getElem_cons hlP, planesGo, planeOkM]
  by_cases e : (PL[i].length : Int) = blkW w l l[i] * blkH h l l[i]
  ·refine Ev.ip e ?_
   rw [zT e, Bool.true_and]
   refine Ev.eq (impl_CoefsOk.l1_ev q PL hn i hlt hlP e (planesGo w h l (l.drop (i + 1)) (PL.drop (i + 1))) ?_ PL[i].length 0 (by omega)) ?_
   ·rw [wrap_succ i (by omega)]; exact ih (i + 1) (by omega)
   ·rw [List.drop_zero]
  ·refine Ev.ng e (Ev.eq (Ev.now _) ?_)
   rw [decide_eq_false e]; rfl
theorem impl_CoefsOk.ev (p w h r : Int) (l : List SC) (PL : List (List (List Int))) (hn : PL.length ≤ 100000000) : Ev (fun k => impl_CoefsOk.f k p w h r l PL) (coefsOkM p w h r l PL) := by
 have bad : Ev (fun k => impl_CoefsOk.j0 k true p w h r l PL) false := Ev.step (fun _ => by rw [impl_CoefsOk.j0]) (Ev.ip rfl (Ev.now _))
 unfold impl_CoefsOk.f coefsOkM
 refine Ev.bind (Ev.c (show impl_FrameOk.f p w h r l = some (frameOkM p w h r l) from rfl)) ?_
 by_cases hF : frameOkM p w h r l = true
 ·rw [hF, Bool.true_and]
  refine Ev.ip rfl ?_
  by_cases e : PL.length = l.length
  ·rw [zT e, Bool.true_and]
   have e2 : ((PL.length : Int) != (l.length : Int)) = false := by simp [e]
   rw [e2]
   refine Ev.step (fun _ => by rw [impl_CoefsOk.j0]) ?_
   exact (Ev.ng (by simp) (Ev.eq (impl_CoefsOk.l0_ev (Fr.of hF) PL e l.length 0 (by omega)) (by rw [List.drop_zero, List.drop_zero])))
  ·have e2 : ((PL.length : Int) != (l.length : Int)) = true := by
    rw [bne_iff_ne]; omega
   rw [e2, decide_eq_false e]
   exact bad
 ·refine Ev.ng hF ?_
  rw [Bool.eq_false_iff.2 hF]
  exact bad
end Go.Proofs.YtilimpjcdeeaiaaGreat.G


namespace Go.Proofs.YtilimpjcdeeaiaaGreat.G
open Go.RowKit Go.Proofs.YtilimpjcdeeaiaaGreatW.PrintWords Go.Proofs.YtilimpjcdeeaiaaGreatW.PrintLast Go.Proofs.YtilimpjcdeeaiaaGreatW.PrintMore
attribute [local go_sem] max2_int min2_int max_two min_two max_three min_three max_four min_four   -- for this text's walks alone
def impl_Frame_has.f (a0_0 : Int) (a0_1 : Int) (a0_2 : Int) (a0_3 : Int) (l0_4 : List (S53)) (a1 : Int) : Option (Bool) := (impl_FrameOk.f a0_0 a0_1 a0_2 a0_3 l0_4).bind fun t367 => (if t367 = true then ((impl_within.f a1 0 (wrap64 ((l0_4.length : Int) - 1))).bind fun t368 => (some t368)) else (some false))
set_option maxHeartbeats 8000000 in
set_option maxRecDepth 100000 in
theorem impl_Frame_has.calls (a0_0 : Int) (a0_1 : Int) (a0_2 : Int) (a0_3 : Int) (A0_4 : Option Addr) (c0_4 : Nat) (l0_4 : List (S53)) (a1 : Int) (r : Bool) (w : World) (hr0_4 : Kd.C k53 w A0_4 l0_4.length l0_4) (hc0_4 : l0_4.length ≤ c0_4) (h : impl_Frame_has.f a0_0 a0_1 a0_2 a0_3 l0_4 a1 = some r) :
  Calls Tryz.prog 99 #[.agg #[.int .i64 a0_0, .int .i64 a0_1, .int .i64 a0_2, .int .i64 a0_3, .slice A0_4 l0_4.length c0_4], .int .i64 a1] w fun e w' => e = .returned (.bool r) ∧ Below w.heap.size w w' := by
 have hu37 := Tryz.underlying37
 have HR0_4 := zA hr0_4
 have HC0_4 := zA hc0_4
 clear hr0_4 hc0_4
 have HB := zA (Below.refl w.heap.size w)
 have H : ((impl_FrameOk.f a0_0 a0_1 a0_2 a0_3 l0_4).bind fun t367 => (if t367 = true then ((impl_within.f a1 0 (wrap64 ((l0_4.length : Int) - 1))).bind fun t368 => (some t368)) else (some false))) = some r := h
 clear h
 replace H := Option.bind_eq_some_iff.mp H
 obtain ⟨t367, A30, H⟩ := H
 try dsimp only at H
 have A3 := zA A30
 clear A30
 by_cases c4 : t367 = true
 rotate_left
 ·replace c4 := Bool.eq_false_iff.mpr c4
  subst c4
  rw [if_neg (show ¬ (false = true) by decide)] at H
  obtain rfl := Option.some.inj H
  go_enter Tryz.func99, Tryz.ntmps99
  go_wp2_with (first | ((with_reducible refine gate_dst (N := 2) rfl ?_); refine nxX (N := 2) (cs := #[.int .i64 a0_0, .int .i64 a0_1, .int .i64 a0_2, .int .i64 a0_3, .slice A0_4 l0_4.length c0_4]) (t := 37) ?_; intro gb366 hg w10 hbox hb; have n0_ := nxH hb HB; have n1_ := zA (hbox); clear HB; have HB := n0_; have BK366 := n1_; clear n0_ n1_ ; clear hb hbox hg; obtain ⟨hcz11_0, hcz11_1, hcz11_2, hcz11_3, hcz11_4⟩ := cz5 BK366) | ((with_reducible refine gate_callee (f := 66) rfl ?_); refine goesL_ (some 6) rfl rfl Tryz.func66 (by kernel_rfl) rfl #[.agg #[.int .i64 a0_0, .int .i64 a0_1, .int .i64 a0_2, .int .i64 a0_3, .slice A0_4 l0_4.length c0_4]] rfl (by (try simp only [zU, zV, zW]); first | done | rfl | (simp only [zR, zQ]; rfl)) ?_; (with_reducible refine (impl_FrameOk.calls a0_0 a0_1 a0_2 a0_3 _ _ l0_4 false _ ?side1 ?side2 A3.out).mono ?_); (case side1 => exact nxC HR0_4 HB); (case side2 => exact HC0_4.out); rintro e w12 ⟨rfl, hb⟩; refine ⟨_, rfl, ?_⟩; replace BK366 := nxB hb BK366; replace HB := nxH hb HB; (try clear hb); (try clear hb2); (try clear hk); (try clear hi)))
  go_ret
  exact ⟨rfl, nxD HB⟩
 subst c4
 rw [if_pos rfl] at H
 replace H := Option.bind_eq_some_iff.mp H
 obtain ⟨t368, A50, H⟩ := H
 try dsimp only at H
 have A5 := zA A50
 clear A50
 obtain rfl := Option.some.inj H
 go_enter Tryz.func99, Tryz.ntmps99
 go_wp2_with (first | ((with_reducible refine gate_dst (N := 2) rfl ?_); refine nxX (N := 2) (cs := #[.int .i64 a0_0, .int .i64 a0_1, .int .i64 a0_2, .int .i64 a0_3, .slice A0_4 l0_4.length c0_4]) (t := 37) ?_; intro gb366 hg w6 hbox hb; have n0_ := nxH hb HB; have n1_ := zA (hbox); clear HB; have HB := n0_; have BK366 := n1_; clear n0_ n1_ ; clear hb hbox hg; obtain ⟨hcz7_0, hcz7_1, hcz7_2, hcz7_3, hcz7_4⟩ := cz5 BK366) | ((with_reducible refine gate_callee (f := 66) rfl ?_); refine goesL_ (some 6) rfl rfl Tryz.func66 (by kernel_rfl) rfl #[.agg #[.int .i64 a0_0, .int .i64 a0_1, .int .i64 a0_2, .int .i64 a0_3, .slice A0_4 l0_4.length c0_4]] rfl (by (try simp only [zU, zV, zW]); first | done | rfl | (simp only [zR, zQ]; rfl)) ?_; (with_reducible refine (impl_FrameOk.calls a0_0 a0_1 a0_2 a0_3 _ _ l0_4 true _ ?side1 ?side2 A3.out).mono ?_); (case side1 => exact nxC HR0_4 HB); (case side2 => exact HC0_4.out); rintro e w8 ⟨rfl, hb⟩; refine ⟨_, rfl, ?_⟩; replace BK366 := nxB hb BK366; replace HB := nxH hb HB; (try clear hb); (try clear hb2); (try clear hk); (try clear hi); obtain ⟨hcz9_0, hcz9_1, hcz9_2, hcz9_3, hcz9_4⟩ := cz5 BK366) | (go_at_call 49; (with_reducible refine (impl_within.calls a1 0 (wrap64 ((l0_4.length : Int) - 1)) t368 _ A5.out).mono ?_); rintro e w' ⟨rfl, ⟨nd, rfl⟩⟩))
 go_ret
 exact ⟨rfl, nxD HB⟩
end Go.Proofs.YtilimpjcdeeaiaaGreat.G

