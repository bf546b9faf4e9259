import Derived.Test.YtilimpjcdeeaiaaMFnScripts2
set_option linter.unusedVariables false
set_option linter.unusedSimpArgs false
namespace Go.Proofs.Ytilimpjcdeeaiaa.G
open Go.RowKit Go.Proofs.YtilimpjcdeeaiaaW.PrintWords Go.Proofs.YtilimpjcdeeaiaaW.PrintLast Go.Proofs.YtilimpjcdeeaiaaW.PrintMore
attribute [local go_sem] max2_int min2_int max_two min_two max_three min_three max_four min_four   -- for this text's walks alone
def impl_leftOf.f (a0_0 a0_1 a0_2 a0_3 : Int) (l0_4 : List S102) (l1 : List S38) : Option (List (List Int) × Bool) := if frameOkM a0_0 a0_1 a0_2 a0_3 l0_4 = true ∧ l1.length ≤ 2000000 ∧ ∀ s ∈ l1, s.f0.length ≤ 2000000 then some (leftRes (leftM l0_4.length l1)) else none
set_option maxRecDepth 100000 in
set_option maxHeartbeats 4000000 in
theorem left_lit (a0_0 a0_1 a0_2 a0_3 : Int) (A0_4 : Option Addr) (c0_4 : Nat) (l0_4 : List S102) (w : World) (g : Nat) (hF : frameOkM a0_0 a0_1 a0_2 a0_3 l0_4 = true) (hg : w.heap[g]? = some (.cells #[.int .i64 a0_0, .int .i64 a0_1, .int .i64 a0_2, .int .i64 a0_3, .slice A0_4 l0_4.length c0_4] 26 (0, 0))) (hr0_4 : Kd.C k102 w A0_4 l0_4.length l0_4) (hc0_4 : l0_4.length ≤ c0_4) :
  ScanP w 110 #[.pointer (some ⟨g, 0, none⟩)] (fun x => x.f0.length ≤ 2000000) (fun x => !scanOkM l0_4.length x) := by
 refine ⟨fun args W => by go_simp, fun A1 c1 x W1 hb hd h1 h2 => ?_⟩
 obtain ⟨k, hk⟩ := (impl_ScanOk.ev a0_0 a0_1 a0_2 a0_3 l0_4 x.f0 x.f1 x.f2 x.f3 x.f4 hF hd).rounds
 have hk1 : W1.heap[g]? = some (.cells #[.int .i64 a0_0, .int .i64 a0_1, .int .i64 a0_2, .int .i64 a0_3, .slice A0_4 l0_4.length c0_4] 26 (0, 0)) := (hb.block g (blk_lt hg)).trans hg
 have HR0 := zA (Kd.C_below hr0_4 hb)
 have HC0 := zA hc0_4
 have HR1 := zA h1
 have HC1 := zA h2
 have HK := zA hk
 have hk2 := zD hk1 (Obj.cells #[.slice A1 x.f0.length c1, .int .i64 x.f1, .int .i64 x.f2, .int .i64 x.f3, .int .i64 x.f4] 38)
 have HB1 := zA (zC (Below.refl W1.heap.size W1) (Obj.cells #[.slice A1 x.f0.length c1, .int .i64 x.f1, .int .i64 x.f2, .int .i64 x.f3, .int .i64 x.f4] 38))
 have k3 := blk_new W1 (Obj.cells #[.slice A1 x.f0.length c1, .int .i64 x.f1, .int .i64 x.f2, .int .i64 x.f3, .int .i64 x.f4] 38)
 clear hr0_4 hc0_4 h1 h2 hk hb hd hg hk1 hF
 show Calls Try.prog 110 #[.agg #[.slice A1 x.f0.length c1, .int .i64 x.f1, .int .i64 x.f2, .int .i64 x.f3, .int .i64 x.f4], .pointer (some ⟨g, 0, none⟩)] W1 _
 go_enter Try.func110, Try.ntmps110
 go_upto_region 1 with (fail)
 generalize W1.alloc (Obj.cells #[.slice A1 x.f0.length c1, .int .i64 x.f1, .int .i64 x.f2, .int .i64 x.f3, .int .i64 x.f4] 38) = W2 at hk2 HB1 k3 ⊢
 generalize W1.heap.size = g2 at k3 ⊢
 have p0 := zK hk2 0
 have p1 := zK hk2 1
 have p2 := zK hk2 2
 have p3 := zK hk2 3
 have p4 := zK hk2 4
 have q0 := zK k3 0
 have q1 := zK k3 1
 have q2 := zK k3 2
 have q3 := zK k3 3
 have q4 := zK k3 4
 simp at p0 p1 p2 p3 p4 q0 q1 q2 q3 q4
 clear hk2 k3
 go_wp2_with (first | (go_at_call 111; go_loud ((with_reducible refine (impl_ScanOk.calls k a0_0 a0_1 a0_2 a0_3 _ _ l0_4 _ _ x.f0 x.f1 x.f2 x.f3 x.f4 _ _ ?s1 ?s2 ?s3 ?s4 HK.out).mono ?_); (case s1 => exact Kd.C_below HR0.out HB1.out); (case s2 => exact HC0.out); (case s3 => exact Kd.C_below HR1.out HB1.out); (case s4 => exact HC1.out)); rintro e w' ⟨rfl, hb_⟩; have HBc := zA (Below.trans HB1.out (Below.mono hb_ HB1.out.size)); clear hb_))
 go_ret
 exact ⟨rfl, by repeat (first | exact HBc.out | apply zB | apply below_drew)⟩
abbrev dRowsL : Kd (List Int) := Kd.slice 3 (Kd.int .i64)
theorem untold64 (n : Nat) : Rows64 n (untoldM n) := ⟨by simp [untoldM], fun x hx => by rw [(List.mem_replicate.1 hx).2]; simp⟩
def LeftP (w : World) (r1 : List (List Int)) (r2 : Bool) (e : Ending) (w' : World) : Prop :=
 ∃ v0_ : Value, e = .returned (.tuple #[v0_, .bool r2]) ∧ Kd.S dRowsL 36 w' w.heap.size (fun _ => True) v0_ r1 ∧ Below w.heap.size w w'
set_option maxRecDepth 100000 in
set_option maxHeartbeats 4000000 in
theorem leftOf_calls (a0_0 a0_1 a0_2 a0_3 : Int) (A0_4 : Option Addr) (c0_4 : Nat) (l0_4 : List S102) (A1 : Option Addr) (c1 : Nat) (l1 : List S38) (r1 : List (List Int)) (r2 : Bool) (w : World) (hr0_4 : Kd.C k102 w A0_4 l0_4.length l0_4) (hc0_4 : l0_4.length ≤ c0_4) (hr1 : Kd.C k38 w A1 l1.length l1) (hc1 : l1.length ≤ c1) (hF : frameOkM a0_0 a0_1 a0_2 a0_3 l0_4 = true) (hl : l1.length ≤ 2000000) (hx : ∀ s ∈ l1, s.f0.length ≤ 2000000) (hM : leftRes (leftM l0_4.length l1) = (r1, r2)) :
  Calls Try.prog 59 #[.agg #[.int .i64 a0_0, .int .i64 a0_1, .int .i64 a0_2, .int .i64 a0_3, .slice A0_4 l0_4.length c0_4], .slice A1 l1.length c1] w (LeftP w r1 r2) := by
 obtain ⟨n1, n4⟩ := frameOk_len hF
 have HM := zA hM
 have HF := zA hF
 have HR0 := zA hr0_4
 have HC0 := zA hc0_4
 have HR1 := zA hr1
 have HC1 := zA hc1
 have HX := zA hx
 clear hr0_4 hc0_4 hr1 hc1 hF hx hM
 have k1 := blk_new w (Obj.cells #[.int .i64 a0_0, .int .i64 a0_1, .int .i64 a0_2, .int .i64 a0_3, .slice A0_4 l0_4.length c0_4] 26)
 have HB := zA (show Below w.heap.size w (w.alloc (Obj.cells #[.int .i64 a0_0, .int .i64 a0_1, .int .i64 a0_2, .int .i64 a0_3, .slice A0_4 l0_4.length c0_4] 26)) from zC (Below.refl _ _) _)
 go_enter Try.func59, Try.ntmps59
 go_upto_region 1 with (fail)
 generalize w.alloc (Obj.cells #[.int .i64 a0_0, .int .i64 a0_1, .int .i64 a0_2, .int .i64 a0_3, .slice A0_4 l0_4.length c0_4] 26) = W1 at k1 HB ⊢
 have K1 := zA k1
 clear k1
 by_cases h40 : 40 < l1.length
 ·have e : leftM l0_4.length l1 = none := by unfold leftM; rw [if_neg (fun hq => by have := hq.1; omega)]
  have HE := zA (show ([], false) = (r1, r2) by rw [← HM.out, e]; rfl)
  clear e HM
  go_wp2
  go_ret2
  obtain ⟨rfl, rfl⟩ := Prod.mk.inj HE.out
  exact ⟨_, rfl, Kd.S_nil _ _ _ _ _, by repeat (first | exact HB.out | apply zB | apply below_drew)⟩
 ·have d40 : decide ((40 : Int) < (l1.length : Int)) = false := decide_eq_false (by omega)
  have d41 : decide (40 < l1.length) = false := decide_eq_false h40
  have h41 : l1.length ≤ 40 := by omega
  clear h40
  cases hall : l1.any (fun x => !scanOkM l0_4.length x)
  all_goals
   have HALL := zA hall
   clear hall
  ·go_upto_region 3 with (first | (go_at_call 109; go_loud ((with_reducible refine (cont_ScanP _ _ (fun x => x.f0.length ≤ 2000000) (fun x => !scanOkM l0_4.length x) _ _ l1 _ ?sp HX.out ?sr HC1.out (by omega)).mono ?_); (case sp => exact left_lit a0_0 a0_1 a0_2 a0_3 A0_4 c0_4 l0_4 _ w.heap.size HF.out K1.out (Kd.C_below HR0.out HB.out) HC0.out); (case sr => exact Kd.C_below HR1.out HB.out)); rintro e w' ⟨rfl, hb_⟩; have HBb := zA (Below.trans HB.out (Below.mono hb_ HB.out.size)); have K2 := zA ((hb_.block _ (blk_lt K1.out)).trans K1.out); rw [HALL.out]; clear hb_))
   have HSC := zA (show ∀ s ∈ l1, scanOkM l0_4.length s = true from fun s hs => by
    have h1 := HALL.out
    rw [List.any_eq_false] at h1
    simpa using h1 s hs)
   have HLM := zA (show leftRes (leftGo l1 (untoldM l0_4.length)) = (r1, r2) by
    rw [← HM.out, leftM, if_pos ⟨h41, List.all_eq_true.2 HSC.out⟩])
   have q0 := zK K2.out 0
   have q1 := zK K2.out 1
   have q2 := zK K2.out 2
   have q3 := zK K2.out 3
   have q4 := zK K2.out 4
   simp at q0 q1 q2 q3 q4
   clear HALL HM K1 HB K2 d40 d41
   go_wp2_with (first | (go_at_call 112; go_loud ((with_reducible refine (impl_untold.calls a0_0 a0_1 a0_2 a0_3 _ _ l0_4 (untoldM l0_4.length) _ ?s1 ?s2 ?s3).mono ?_); (case s1 => exact Kd.C_below HR0.out HBb.out); (case s2 => exact HC0.out); (case s3 => unfold impl_untold.f; rw [if_pos (by omega)])); rintro e w' ⟨v, rfl, hs_, hb_⟩; have HS := zA (Kd.S_lower hs_ HBb.out.size); have HBc := zA (Below.trans HBb.out (Below.mono hb_ HBb.out.size)); clear hb_ hs_ q0 q1 q2 q3 q4))
   clear HBb
   obtain ⟨gl, cl, rfl, hg1, hg2, _⟩ := Kd.R_form (Kd.S_R HS.out) (by rw [(untold64 _).1]; omega)
   rw [(untold64 l0_4.length).1] at HS ⊢
   go_loopw [21] (fun v21 w' => ∃ (i : Nat) (L : List (List Int)), v21 = .int .i64 i ∧ i ≤ l1.length ∧ Aside0 (Kd.S dRowsL 36 w' w.heap.size (fun _ => True) (.slice (some ⟨gl, 0, none⟩) l0_4.length cl) L) ∧ Aside0 (Below w.heap.size w w') ∧ Aside0 (Rows64 l0_4.length L) ∧ Aside0 (leftRes (leftGo (l1.drop i) L) = (r1, r2))) (fun v21 w' => l1.length - (intOf v21).toNat)
   case atStart => exact ⟨0, _, rfl, Nat.zero_le _, ⟨by repeat (first | exact HS.out | apply yF | apply yG)⟩, ⟨by repeat (first | exact HBc.out | apply zB | apply below_drew)⟩, ⟨untold64 _⟩, ⟨by rw [List.drop_zero]; exact HLM.out⟩⟩
   case round =>
    clear HS HBc HLM
    obtain ⟨i, L, rfl, hil, HS, HB, H64, HLM⟩ := hrel
    by_cases hlt : i < l1.length
    ·obtain ⟨ad, A2, c2, e1, hx0, hx1, hx2, hx3, hx4, hlx, hix⟩ := at_T38 HR1.out (i : Int) (by omega) (by omega)
     cases e1
     rw [Int.toNat_natCast] at hx0 hx1 hx2 hx3 hx4
     obtain ⟨x, hxe⟩ : ∃ x, x = rd_T38 l1 i := ⟨_, rfl⟩
     rw [← hxe] at hx0 hx1 hx2 hx3 hx4 hlx hix
     have hxl : x = l1[i] := by rw [hxe]; simp [rd_T38, hlt]
     have hok := HSC.out x (by rw [hxl]; exact List.getElem_mem hlt)
     have hok2 := hok
     unfold scanOkM at hok2
     rw [Bool.and_eq_true] at hok2
     obtain ⟨g0, g1, g2, g3, g4, g5⟩ := pass_of hok2.2
     have hcl := comps_len hok2.1
     have HCS := zA (comps_in hok2.1)
     obtain ⟨f, hf⟩ : ∃ f : Nat, x.f1 = (f : Int) := ⟨x.f1.toNat, by omega⟩
     obtain ⟨t, ht⟩ : ∃ t : Nat, x.f2 = (t : Int) := ⟨x.f2.toNat, by omega⟩
     have hm : x.f0.length ≤ 100 := by omega
     have ft : f ≤ t := by omega
     have t63 : t ≤ 63 := by omega
     have HTR := zA (show leftRes ((tellC (if x.f3 > 0 then x.f3 else -1) x.f4 f (t - f + 1) x.f0 L).bind (leftGo (l1.drop (i + 1)))) = (r1, r2) by
      rw [← HLM.out, List.drop_eq_getElem_cons hlt, ← hxl, leftGo, tellR, hf, ht, Int.toNat_natCast, show ((t : Int) - (f : Int) + 1).toNat = t - f + 1 by omega])
     rw [hf] at hx1
     rw [ht] at hx2
     replace hx0 := (HB.out.cell (World.block_lt_of_cell? w _ hx0)).trans hx0
     replace hx1 := (HB.out.cell (World.block_lt_of_cell? w _ hx1)).trans hx1
     replace hx2 := (HB.out.cell (World.block_lt_of_cell? w _ hx2)).trans hx2
     replace hx3 := (HB.out.cell (World.block_lt_of_cell? w _ hx3)).trans hx3
     replace hx4 := (HB.out.cell (World.block_lt_of_cell? w _ hx4)).trans hx4
     have HRX := zA hix
     have HCX := zA hlx
     clear hok hok2 g0 g1 g2 g3 g4 g5 hcl hf ht hix hlx hxl hxe HLM
     go_upto_region 7 with (fail)
     clear hx0 hx1 hx2 hx3 hx4
     have HS1 := zA (yE HS.out (Obj.cells #[.slice A2 x.f0.length c2, .int .i64 (f : Int), .int .i64 (t : Int), .int .i64 x.f3, .int .i64 x.f4] 38))
     have HB1 := zA (zC HB.out (Obj.cells #[.slice A2 x.f0.length c2, .int .i64 (f : Int), .int .i64 (t : Int), .int .i64 x.f3, .int .i64 x.f4] 38))
     have k2 := blk_new wr (Obj.cells #[.slice A2 x.f0.length c2, .int .i64 (f : Int), .int .i64 (t : Int), .int .i64 x.f3, .int .i64 x.f4] 38)
     generalize wr.heap.size = g3 at k2 ⊢
     generalize wr.alloc (Obj.cells #[.slice A2 x.f0.length c2, .int .i64 (f : Int), .int .i64 (t : Int), .int .i64 x.f3, .int .i64 x.f4] 38) = W3 at k2 HS1 HB1 ⊢
     have y0 := zK k2 0
     have y1 := zK k2 1
     have y2 := zK k2 2
     have y3 := zK k2 3
     have y4 := zK k2 4
     simp at y0 y1 y2 y3 y4
     clear k2 HS HB
     go_wp2_with (first | (go_at_call 113; go_loud ((with_reducible refine (tell_calls w _ gl cl l0_4.length L (fun _ => True) A2 c2 x.f0 f t x.f3 x.f4 ?t1 ?t2 ?t3 ?t4 ?t5 ft t63 ?t6 hm).mono ?_); (case t1 => exact HS1.out); (case t2 => exact HB1.out); (case t3 => exact HRX.out); (case t4 => exact HCX.out); (case t5 => exact H64.out); (case t6 => exact HCS.out)); rintro e w' ⟨b, L2, rfl, hs_, hb_, h64_, ht_⟩; have HS2 := zA hs_; have HB2 := zA hb_; have H642 := zA h64_; have HT := zA ht_; clear hs_ hb_ h64_ ht_; cases b))
     ·have HE := zA (show ([], false) = (r1, r2) by rw [← HTR.out, HT.out]; rfl)
      clear HTR HT
      go_wp2
      go_ret2
      obtain ⟨rfl, rfl⟩ := Prod.mk.inj HE.out
      exact ⟨_, rfl, Kd.S_nil _ _ _ _ _, by repeat (first | exact HB2.out | apply zB | apply below_drew)⟩
     ·have HG := zA (show leftRes (leftGo (l1.drop (i + 1)) L2) = (r1, r2) by rw [← HTR.out, HT.out]; rfl)
      clear HTR HT
      go_wp2
      go_roundw
      case rel => exact ⟨i + 1, L2, by go_num, by omega, ⟨by repeat (first | exact HS2.out | apply yF | apply yG)⟩, ⟨by repeat (first | exact HB2.out | apply zB | apply below_drew)⟩, H642, HG⟩
      case measure => simp [intOf]; omega
    ·obtain rfl : i = l1.length := by omega
     have HE := zA (show (L, true) = (r1, r2) by rw [← HLM.out, List.drop_length]; rfl)
     clear HLM
     go_wp2
     go_ret2
     obtain ⟨rfl, rfl⟩ := Prod.mk.inj HE.out
     exact ⟨_, rfl, by repeat (first | exact HS.out | apply yF | apply yG), by repeat (first | exact HB.out | apply zB | apply below_drew)⟩
  ·have e : leftM l0_4.length l1 = none := by
    unfold leftM
    rw [if_neg]
    intro hq
    have h1 := HALL.out
    rw [List.any_eq_true] at h1
    obtain ⟨x, hx1, hx2⟩ := h1
    have h2 := List.all_eq_true.1 hq.2 x hx1
    rw [h2] at hx2
    cases hx2
   have HE := zA (show ([], false) = (r1, r2) by rw [← HM.out, e]; rfl)
   clear e HM
   go_wp2_with (first | (go_at_call 109; go_loud ((with_reducible refine (cont_ScanP _ _ (fun x => x.f0.length ≤ 2000000) (fun x => !scanOkM l0_4.length x) _ _ l1 _ ?sp HX.out ?sr HC1.out (by omega)).mono ?_); (case sp => exact left_lit a0_0 a0_1 a0_2 a0_3 A0_4 c0_4 l0_4 _ w.heap.size HF.out K1.out (Kd.C_below HR0.out HB.out) HC0.out); (case sr => exact Kd.C_below HR1.out HB.out)); rintro e w' ⟨rfl, hb_⟩; have HBb := zA (Below.trans HB.out (Below.mono hb_ HB.out.size)); rw [HALL.out]; clear hb_))
   go_ret2
   obtain ⟨rfl, rfl⟩ := Prod.mk.inj HE.out
   exact ⟨_, rfl, Kd.S_nil _ _ _ _ _, by repeat (first | exact HBb.out | apply zB | apply below_drew)⟩
theorem impl_leftOf.calls (a0_0 a0_1 a0_2 a0_3 : Int) (A0_4 : Option Addr) (c0_4 : Nat) (l0_4 : List S102) (A1 : Option Addr) (c1 : Nat) (l1 : List S38) (r1 : List (List Int)) (r2 : Bool) (w : World) (hr0_4 : Kd.C k102 w A0_4 l0_4.length l0_4) (hc0_4 : l0_4.length ≤ c0_4) (hr1 : Kd.C k38 w A1 l1.length l1) (hc1 : l1.length ≤ c1) (h : impl_leftOf.f a0_0 a0_1 a0_2 a0_3 l0_4 l1 = some (r1, r2)) :
  Calls Try.prog 59 #[.agg #[.int .i64 a0_0, .int .i64 a0_1, .int .i64 a0_2, .int .i64 a0_3, .slice A0_4 l0_4.length c0_4], .slice A1 l1.length c1] w fun e w' => ∃ v0_ : Value, e = .returned (.tuple #[v0_, .bool r2]) ∧ Kd.S (Kd.slice 3 (Kd.int .i64)) 36 w' w.heap.size (fun _ => True) v0_ r1 ∧ Below w.heap.size w w' := by
 unfold impl_leftOf.f at h
 split at h
 ·rename_i hh
  exact leftOf_calls a0_0 a0_1 a0_2 a0_3 A0_4 c0_4 l0_4 A1 c1 l1 r1 r2 w hr0_4 hc0_4 hr1 hc1 hh.1 hh.2.1 hh.2.2 (Option.some.inj h)
 ·cases h
end Go.Proofs.Ytilimpjcdeeaiaa.G


namespace Go.Proofs.Ytilimpjcdeeaiaa.G
open Go.RowKit Go.Proofs.YtilimpjcdeeaiaaW.PrintWords Go.Proofs.YtilimpjcdeeaiaaW.PrintLast Go.Proofs.YtilimpjcdeeaiaaW.PrintMore
attribute [local go_sem] max2_int min2_int max_two min_two max_three min_three max_four min_four   -- for this text's walks alone
def impl_allWithin.l0 : Nat → Int → Int → List Int → Int → Int → Option (Bool)
 | 0, _, _, _, _, _ => none
 | k + 1, x1, x2, x9, x10, x11 => if x11 < x10 then (if 0 ≤ x11 then (if x11 < (x9.length : Int) then ((impl_within.f (rd x9 x11) x1 x2).bind fun t260 => (if t260 = true then (impl_allWithin.l0 k x1 x2 x9 x10 (wrap64 (x11 + 1))) else (some false))) else (none)) else (none)) else (some true)
def impl_allWithin.f (k : Nat) (l0 : List Int) (a1 : Int) (a2 : Int) : Option (Bool) := impl_allWithin.l0 k a1 a2 l0 (l0.length : Int) 0
set_option maxHeartbeats 8000000 in
set_option maxRecDepth 100000 in
theorem impl_allWithin.calls (k : Nat) (A0 : Option Addr) (c0 : Nat) (l0 : List Int) (a1 : Int) (a2 : Int) (r : Bool) (w : World) (hr0 : Kd.C (Kd.int .i64) w A0 l0.length l0) (hc0 : l0.length ≤ c0) (h : impl_allWithin.f k l0 a1 a2 = some r) :
  Calls Try.prog 75 #[.slice A0 l0.length c0, .int .i64 a1, .int .i64 a2] w fun e w' => e = .returned (.bool r) ∧ Drawn0 w w' := by
 have HR0 := zA hr0
 have HC0 := zA hc0
 clear hr0 hc0
 have H : (impl_allWithin.l0 k a1 a2 l0 (l0.length : Int) 0) = some r := h
 clear h
 have H' := zA H
 clear H
 go_enter Try.func75, Try.ntmps75
 go_wp2
 go_loopg [11] k (fun kq v11 w' => ∃ (x11_1 : Int), v11 = .int .i64 x11_1 ∧ Aside0 (impl_allWithin.l0 kq a1 a2 l0 (l0.length : Int) x11_1 = some r) ∧ Aside0 (kq ≤ k) ∧ Drawn0 w w')
 case atStart => exact ⟨(0), (by first | rfl | (simp; done) | (simp [*]; done)), H', ⟨Nat.le_refl _⟩, by repeat (first | exact Drawn0.refl _ | apply Drawn0.step)⟩
 case round =>
  clear H'
  try clear p2
  obtain ⟨x11_1, rfl, HA, HK1, ⟨m1, rfl⟩⟩ := hrel
  cases gk with
  | zero => exact absurd HA.out (by simp [impl_allWithin.l0])
  | succ k1 =>
   have H := HA.out
   clear HA
   simp only [impl_allWithin.l0] at H
   by_cases c4 : x11_1 < (l0.length : Int)
   ·rw [if_pos c4] at H
    have c4b0 : decide (x11_1 < (l0.length : Int)) = true := zT c4
    clear c4
    by_cases c5 : 0 ≤ x11_1
    ·rw [if_pos c5] at H
     have c5b0 : decide (0 ≤ x11_1) = true := zT c5
     clear c5
     by_cases c6 : x11_1 < (l0.length : Int)
     ·rw [if_pos c6] at H
      have c6b0 : decide (x11_1 < (l0.length : Int)) = true := zT c6
      clear c6
      replace H := Option.bind_eq_some_iff.mp H
      obtain ⟨t260, A70, H⟩ := H
      replace H : (if t260 = true then (impl_allWithin.l0 k1 a1 a2 l0 (l0.length : Int) (wrap64 (x11_1 + 1))) else (some false)) = some r := H
      have A7 := zA A70
      clear A70
      by_cases c8 : t260 = true
      ·subst c8
       have H1 : (impl_allWithin.l0 k1 a1 a2 l0 (l0.length : Int) (wrap64 (x11_1 + 1))) = some r := by rw [if_pos rfl] at H; exact H
       clear H
       have H := H1
       clear H1
       have H' := zA H
       clear H
       have p259 : 0 ≤ (x11_1 : Int) := zI (by first | (with_reducible assumption) | assumption)
       have q259 : x11_1 < (l0.length : Int) := zI (by first | (with_reducible assumption) | assumption)
       obtain ⟨ad259, e259, hx259_0⟩ := Kd.at_int HR0.out x11_1 p259 q259
       cases e259
       replace p259 := eq_true p259
       replace q259 := eq_true q259
       go_wp2_with (first | ((with_reducible refine gate_callee (f := 53) rfl ?_); refine goesL_ (some 18) rfl rfl Try.func53 (by kernel_rfl) rfl #[.int .i64 (rd l0 x11_1), .int .i64 a1, .int .i64 a2] rfl (by (try simp only [zU, zV, zW]); first | done | rfl | (simp only [zR, zQ]; rfl)) ?_; (with_reducible refine (impl_within.calls (rd l0 x11_1) a1 a2 true _ A7.out).mono ?_); rintro e w' ⟨rfl, ⟨nd, rfl⟩⟩; refine ⟨_, rfl, ?_⟩))
       go_roundg k1
       case measure => have := HK1.out; omega
       case rel => exact ⟨(wrap64 (x11_1 + 1)), (by first | rfl | (simp; done) | (simp [*]; done)), H', ⟨by have := HK1.out; omega⟩, by repeat (first | exact Drawn0.refl _ | apply Drawn0.step)⟩
      ·replace c8 := Bool.eq_false_iff.mpr c8
       subst c8
       have H1 : (some false) = some r := by rw [if_neg (show ¬ (false = true) by decide)] at H; exact H
       clear H
       have H := H1
       clear H1
       obtain rfl := Option.some.inj H
       have p259 : 0 ≤ (x11_1 : Int) := zI (by first | (with_reducible assumption) | assumption)
       have q259 : x11_1 < (l0.length : Int) := zI (by first | (with_reducible assumption) | assumption)
       obtain ⟨ad259, e259, hx259_0⟩ := Kd.at_int HR0.out x11_1 p259 q259
       cases e259
       replace p259 := eq_true p259
       replace q259 := eq_true q259
       go_wp2_with (first | ((with_reducible refine gate_callee (f := 53) rfl ?_); refine goesL_ (some 18) rfl rfl Try.func53 (by kernel_rfl) rfl #[.int .i64 (rd l0 x11_1), .int .i64 a1, .int .i64 a2] rfl (by (try simp only [zU, zV, zW]); first | done | rfl | (simp only [zR, zQ]; rfl)) ?_; (with_reducible refine (impl_within.calls (rd l0 x11_1) a1 a2 false _ A7.out).mono ?_); rintro e w' ⟨rfl, ⟨nd, rfl⟩⟩; refine ⟨_, rfl, ?_⟩))
       go_ret
       exact ⟨by first | rfl | (simp; done) | (simp [*]; done), by repeat (first | exact Drawn0.refl _ | apply Drawn0.step)⟩
     ·rw [if_neg c6] at H
      exact absurd H (by simp)
    ·rw [if_neg c5] at H
     exact absurd H (by simp)
   ·rw [if_neg c4] at H
    have c4b0 : decide (x11_1 < (l0.length : Int)) = false := decide_eq_false c4
    clear c4
    obtain rfl := Option.some.inj H
    go_wp2
    go_ret
    exact ⟨by first | rfl | (simp; done) | (simp [*]; done), by repeat (first | exact Drawn0.refl _ | apply Drawn0.step)⟩
theorem impl_allWithin.go (lo hi : Int) (l : List Int) (hm : l.length < 4611686018427387904) (d : Nat) : ∀ (i : Nat) (k : Nat), l.length - i = d → i ≤ l.length → d < k →
  impl_allWithin.l0 k lo hi l (l.length : Int) (i : Int) = some (allW lo hi (l.drop i)) := by
 induction d with
 | zero =>
  intro i k hd hi' hk
  obtain ⟨k, rfl⟩ : ∃ m, k = m + 1 := ⟨k - 1, by omega⟩
  obtain rfl : i = l.length := by omega
  simp only [impl_allWithin.l0]
  rw [if_neg (by omega)]
  simp [allW]
 | succ d ih =>
  intro i k hd hi' hk
  obtain ⟨k, rfl⟩ : ∃ m, k = m + 1 := ⟨k - 1, by omega⟩
  have hlt : i < l.length := by omega
  simp only [impl_allWithin.l0]
  rw [if_pos (by omega), if_pos (by omega), if_pos (by omega)]
  have hrd : rd l (i : Int) = l[i] := by simp [rd, hlt]
  have hda : allW lo hi (l.drop i) = (decide (lo ≤ l[i]) && decide (l[i] ≤ hi) && allW lo hi (l.drop (i + 1))) := by
   unfold allW; rw [List.drop_eq_getElem_cons hlt, List.all_cons]
  have hw : wrap64 ((i : Int) + 1) = ((i + 1 : Nat) : Int) := by unfold wrap64; omega
  rw [hda, hrd, hw, ih (i + 1) k (by omega) (by omega) (by omega)]
  unfold impl_within.f
  by_cases h1 : l[i] ≥ lo
  ·rw [if_pos h1]
   by_cases h2 : l[i] ≤ hi
   ·simp [h2, ge_iff_le.mp h1]
   ·simp [h2]
  ·rw [if_neg h1]
   have : ¬ lo ≤ l[i] := h1
   simp [this]
theorem impl_allWithin.ev (lo hi : Int) (l : List Int) (hm : l.length < 4611686018427387904) : ∃ k, impl_allWithin.f k l lo hi = some (allW lo hi l) :=
 ⟨l.length + 1, by unfold impl_allWithin.f; exact impl_allWithin.go lo hi l hm l.length 0 _ (by omega) (by omega) (by omega)⟩
end Go.Proofs.Ytilimpjcdeeaiaa.G


namespace Go.Proofs.Ytilimpjcdeeaiaa.G
open Go.RowKit Go.Proofs.YtilimpjcdeeaiaaW.PrintWords Go.Proofs.YtilimpjcdeeaiaaW.PrintLast Go.Proofs.YtilimpjcdeeaiaaW.PrintMore
attribute [local go_sem] max2_int min2_int max_two min_two max_three min_three max_four min_four   -- for this text's walks alone
def RowP (w : World) (fn : Nat) (caps : Array Value) (D : List Int → Prop) (P : List Int → Bool) : Prop :=
 (∀ (args : Array Value) (W1 : World), Sem.run Try.prog (callFunc fn args) W1 = Result.ok (Next.enter fn args) W1) ∧
 ∀ (A1 : Option Addr) (c1 : Nat) (x : List Int) (W1 : World), Below w.heap.size w W1 → D x → Kd.C (Kd.int .i64) W1 A1 x.length x → x.length ≤ c1 → Calls Try.prog fn (#[.slice A1 x.length c1] ++ caps) W1 fun e w' => e = .returned (.bool (P x)) ∧ Below W1.heap.size W1 w'
theorem RowP.at_ {w W : World} {fn : Nat} {caps : Array Value} {D : List Int → Prop} {P : List Int → Bool} (h : RowP w fn caps D P) (hb : Below w.heap.size w W) : RowP W fn caps D P :=
 ⟨h.1, fun _ _ x W1 hW => h.2 _ _ x W1 (Below.trans hb (Below.mono hW hb.size))⟩
set_option maxRecDepth 100000 in
set_option maxHeartbeats 4000000 in
theorem idx_RowP (fn : Nat) (caps : Array Value) (D : List Int → Prop) (P : List Int → Bool) (A0 : Option Addr) (c0 : Nat) (l0 : List (List Int)) (w : World) (hS : RowP w fn caps D P) (hD : ∀ x ∈ l0, D x) (hr0 : Kd.C (Kd.slice 3 (Kd.int .i64)) w A0 l0.length l0) (hc0 : l0.length ≤ c0) (hm : l0.length ≤ 100000000) :
  Calls Try.prog 146 #[.slice A0 l0.length c0, .func (.func fn) #[] caps] w fun e w' => ∃ r : Int, e = .returned (.int .i64 r) ∧ (0 ≤ r ↔ l0.any P = true) ∧ Below w.heap.size w w' := by
 have HR0 := zA hr0
 have HC0 := zA hc0
 have HS := zA hS
 have HD := zA hD
 clear hr0 hc0 hS hD
 have HB0 := zA (Below.refl w.heap.size w)
 go_enter Try.func146, Try.ntmps146
 go_wp2
 go_loopw [8] (fun i w' => ∃ k : Nat, i = .int .i64 k ∧ k ≤ l0.length ∧ Aside0 ((l0.take k).any P = false) ∧ Aside0 (Below w.heap.size w w')) (fun i w' => l0.length - (intOf i).toNat)
 case atStart => exact ⟨0, rfl, by omega, ⟨by simp⟩, by first | exact HB0 | exact ⟨by repeat (first | exact HB0.out | apply zB | apply below_drew)⟩⟩
 case round =>
  clear HB0
  obtain ⟨k, rfl, hk, HA, HB⟩ := hrel
  by_cases hlt : k < l0.length
  ·obtain ⟨ad, A1, c1, e1, hx0, hl, hi⟩ := at_L3 (Kd.C_below HR0.out HB.out) (k : Int) (by omega) (by omega)
   cases e1
   rw [Int.toNat_natCast] at hx0
   have HR1 := zA hi; have HC1 := zA hl; clear hi hl
   have hgl : rd_L3 l0 k = l0[k] := by simp [rd_L3, hlt]
   cases hp : P (rd_L3 l0 k)
   all_goals
    have HP := zA hp
    have HG := zA hgl
    clear hp hgl
    go_wp2_with fail
    rw [HS.out.1]
    simp only [Oper.upon_enter]
    have HBW := zA (show Below w.heap.size w _ from by first | exact HB.out | (repeat (first | exact HB.out | apply zB | apply below_drew)))
    refine (HS.out.2 A1 c1 (rd_L3 l0 k) wr HB.out (by rw [HG.out]; exact HD.out _ (List.getElem_mem _)) HR1.out HC1.out).mono ?_
    rw [HP.out]
    rintro e w' ⟨rfl, hb2⟩
    have HB2 := zA (Below.trans HB.out (Below.mono hb2 HB.out.size))
    clear hb2
   ·go_wp2
    go_roundw
    case rel => exact ⟨k + 1, by go_num, by omega, ⟨by rw [List.take_succ_eq_append_getElem hlt, List.any_append, HA.out]; simp [← HG.out, HP.out]⟩, by first | exact HB2 | exact ⟨by repeat (first | exact HB2.out | apply zB | apply below_drew)⟩⟩
    case measure => simp [intOf]; omega
   ·go_wp2
    go_ret
    exact ⟨_, rfl, by simp only [Int.natCast_nonneg, true_iff]; rw [List.any_eq_true]; exact ⟨l0[k], List.getElem_mem _, by rw [← HG.out, HP.out]⟩, by repeat (first | exact HB2.out | apply zB | apply below_drew)⟩
  ·obtain rfl : k = l0.length := by omega
   go_wp2
   go_ret
   exact ⟨_, rfl, by have := HA.out; rw [List.take_length] at this; simp [this], by repeat (first | exact HB.out | apply zB | apply below_drew)⟩
set_option maxRecDepth 100000 in
set_option maxHeartbeats 4000000 in
theorem cont_RowP (fn : Nat) (caps : Array Value) (D : List Int → Prop) (P : List Int → Bool) (A0 : Option Addr) (c0 : Nat) (l0 : List (List Int)) (w : World) (hS : RowP w fn caps D P) (hD : ∀ x ∈ l0, D x) (hr0 : Kd.C (Kd.slice 3 (Kd.int .i64)) w A0 l0.length l0) (hc0 : l0.length ≤ c0) (hm : l0.length ≤ 100000000) :
  Calls Try.prog 114 #[.slice A0 l0.length c0, .func (.func fn) #[] caps] w fun e w' => e = .returned (.bool (l0.any P)) ∧ Below w.heap.size w w' := by
 have HR0 := zA hr0
 have HC0 := zA hc0
 have HS := zA hS
 have HD := zA hD
 clear hr0 hc0 hS hD
 cases ha : l0.any P
 all_goals
  have HAA := zA ha
  clear ha
  go_enter Try.func114, Try.ntmps114
  go_wp2_with (first | (go_at_call 146; (with_reducible refine (idx_RowP fn caps D P _ _ l0 _ HS.out HD.out ?side1 ?side2 hm).mono ?_); (case side1 => exact HR0.out); (case side2 => exact HC0.out); rintro e w' ⟨r, rfl, hq, hb⟩; have HB := zA hb; clear hb; rw [HAA.out] at hq; (first | have hq2 : 0 ≤ r := hq.2 rfl | have hq2 : ¬ 0 ≤ r := fun z => absurd (hq.1 z) (by decide)); clear hq))
  go_ret
  exact ⟨by simp [hq2], by repeat (first | exact HB.out | apply zB | apply below_drew)⟩
end Go.Proofs.Ytilimpjcdeeaiaa.G


namespace Go.Proofs.Ytilimpjcdeeaiaa.G
open Go.RowKit Go.Proofs.YtilimpjcdeeaiaaW.PrintWords Go.Proofs.YtilimpjcdeeaiaaW.PrintLast Go.Proofs.YtilimpjcdeeaiaaW.PrintMore
attribute [local go_sem] max2_int min2_int max_two min_two max_three min_three max_four min_four   -- for this text's walks alone
/-- all is told -/
def wholeM (l : List (List Int)) : Bool := l.all (allW 0 0)
def impl_isWhole.f (l0 : List (List Int)) : Option Bool := if l0.length ≤ 100000000 ∧ ∀ x ∈ l0, x.length ≤ 100000000 then some (wholeM l0) else none
set_option maxRecDepth 100000 in
set_option maxHeartbeats 4000000 in
theorem whole_lit (w : World) : RowP w 115 #[] (fun x => x.length ≤ 100000000) (fun x => !allW 0 0 x) := by
 refine ⟨fun args W => by go_simp, fun A1 c1 x W1 hb hd h1 h2 => ?_⟩
 obtain ⟨k, hk⟩ := impl_allWithin.ev 0 0 x (by omega)
 have HR := zA h1
 have HC := zA h2
 have HK := zA hk
 clear hb hd h1 h2 hk
 show Calls Try.prog 115 #[.slice A1 x.length c1] W1 _
 go_enter Try.func115, Try.ntmps115
 go_wp2_with (first | (go_at_call 75; (with_reducible refine (impl_allWithin.calls k _ _ x 0 0 _ _ ?side1 ?side2 HK.out).mono ?_); (case side1 => exact HR.out); (case side2 => exact HC.out); rintro e w' ⟨rfl, ⟨nd, rfl⟩⟩))
 go_ret
 exact ⟨rfl, by repeat (first | exact Below.refl _ _ | apply zB | apply below_drew)⟩
set_option maxRecDepth 100000 in
set_option maxHeartbeats 4000000 in
theorem impl_isWhole.calls (A0 : Option Addr) (c0 : Nat) (l0 : List (List Int)) (r : Bool) (w : World) (hr0 : Kd.C (Kd.slice 3 (Kd.int .i64)) w A0 l0.length l0) (hc0 : l0.length ≤ c0) (h : impl_isWhole.f l0 = some r) :
  Calls Try.prog 60 #[.slice A0 l0.length c0] w fun e w' => e = .returned (.bool r) ∧ Below w.heap.size w w' := by
 unfold impl_isWhole.f at h
 split at h
 ·rename_i hl
  obtain ⟨hl, hx⟩ := hl
  have e0 : (!l0.any fun x => !allW 0 0 x) = wholeM l0 := by
   unfold wholeM
   rw [List.not_any_eq_all_not]
   simp only [Bool.not_not]
  have HE := zA (e0.trans (Option.some.inj h))
  have HR := zA hr0
  have HC := zA hc0
  have HX := zA hx
  clear h hr0 hc0 hx e0
  go_enter Try.func60, Try.ntmps60
  go_wp2_with (first | (go_at_call 114; (with_reducible refine (cont_RowP _ _ (fun x => x.length ≤ 100000000) (fun x => !allW 0 0 x) _ _ l0 _ (whole_lit _) HX.out ?side1 ?side2 hl).mono ?_); (case side1 => exact HR.out); (case side2 => exact HC.out); rintro e w' ⟨rfl, hb_⟩; have HB := zA hb_; clear hb_))
  go_ret
  exact ⟨by rw [← HE.out]; rfl, by repeat (first | exact HB.out | apply zB | apply below_drew)⟩
 ·cases h
end Go.Proofs.Ytilimpjcdeeaiaa.G


namespace Go.Proofs.Ytilimpjcdeeaiaa.G
open Go.RowKit Go.Proofs.YtilimpjcdeeaiaaW.PrintWords Go.Proofs.YtilimpjcdeeaiaaW.PrintLast Go.Proofs.YtilimpjcdeeaiaaW.PrintMore
attribute [local go_sem] max2_int min2_int max_two min_two max_three min_three max_four min_four   -- for this text's walks alone
def impl_ScriptOk.f (a0_0 : Int) (a0_1 : Int) (a0_2 : Int) (a0_3 : Int) (l0_4 : List (S102)) (l1 : List (S38)) : Option (Bool) := (impl_FrameOk.f a0_0 a0_1 a0_2 a0_3 l0_4).bind fun t262 => (if t262 = true then ((impl_leftOf.f a0_0 a0_1 a0_2 a0_3 l0_4 l1).bind fun bt263 => (if bt263.2 = true then ((impl_isWhole.f bt263.1).bind fun t267 => (some t267)) else (some false))) else (some false))
set_option maxHeartbeats 8000000 in
set_option maxRecDepth 100000 in
theorem impl_ScriptOk.calls (a0_0 : Int) (a0_1 : Int) (a0_2 : Int) (a0_3 : Int) (A0_4 : Option Addr) (c0_4 : Nat) (l0_4 : List (S102)) (A1 : Option Addr) (c1 : Nat) (l1 : List (S38)) (r : Bool) (w : World) (hr0_4 : Kd.C k102 w A0_4 l0_4.length l0_4) (hc0_4 : l0_4.length ≤ c0_4) (hr1 : Kd.C k38 w A1 l1.length l1) (hc1 : l1.length ≤ c1) (h : impl_ScriptOk.f a0_0 a0_1 a0_2 a0_3 l0_4 l1 = some r) :
  Calls Try.prog 13 #[.agg #[.int .i64 a0_0, .int .i64 a0_1, .int .i64 a0_2, .int .i64 a0_3, .slice A0_4 l0_4.length c0_4], .slice A1 l1.length c1] w fun e w' => e = .returned (.bool r) ∧ Below w.heap.size w w' := by
 have hu26 := Try.underlying26
 have HR0_4 := zA hr0_4
 have HC0_4 := zA hc0_4
 clear hr0_4 hc0_4
 have HR1 := zA hr1
 have HC1 := zA hc1
 clear hr1 hc1
 have HB := zA (Below.refl w.heap.size w)
 have H : ((impl_FrameOk.f a0_0 a0_1 a0_2 a0_3 l0_4).bind fun t262 => (if t262 = true then ((impl_leftOf.f a0_0 a0_1 a0_2 a0_3 l0_4 l1).bind fun bt263 => (if bt263.2 = true then ((impl_isWhole.f bt263.1).bind fun t267 => (some t267)) else (some false))) else (some false))) = some r := h
 clear h
 replace H := Option.bind_eq_some_iff.mp H
 obtain ⟨t262, A30, H⟩ := H
 replace H : (if t262 = true then ((impl_leftOf.f a0_0 a0_1 a0_2 a0_3 l0_4 l1).bind fun bt263 => (if bt263.2 = true then ((impl_isWhole.f bt263.1).bind fun t267 => (some t267)) else (some false))) else (some false)) = some r := H
 have A3 := zA A30
 clear A30
 by_cases c4 : t262 = true
 ·subst c4
  have H1 : ((impl_leftOf.f a0_0 a0_1 a0_2 a0_3 l0_4 l1).bind fun bt263 => (if bt263.2 = true then ((impl_isWhole.f bt263.1).bind fun t267 => (some t267)) else (some false))) = some r := by rw [if_pos rfl] at H; exact H
  clear H
  have H := H1
  clear H1
  replace H := Option.bind_eq_some_iff.mp H
  obtain ⟨⟨t263, t266⟩, A50, H⟩ := H
  replace H : (if t266 = true then ((impl_isWhole.f t263).bind fun t267 => (some t267)) else (some false)) = some r := H
  have A5 := zA A50
  clear A50
  by_cases c6 : t266 = true
  ·subst c6
   have H1 : ((impl_isWhole.f t263).bind fun t267 => (some t267)) = some r := by rw [if_pos rfl] at H; exact H
   clear H
   have H := H1
   clear H1
   replace H := Option.bind_eq_some_iff.mp H
   obtain ⟨t267, A70, H⟩ := H
   replace H : (some t267) = some r := H
   have A7 := zA A70
   clear A70
   obtain rfl := Option.some.inj H
   go_enter Try.func13, Try.ntmps13
   go_wp2_with (first | ((with_reducible refine gate_dst (N := 2) rfl ?_); refine box_event ?hg (N := 2) ?hd (cs := #[.int .i64 a0_0, .int .i64 a0_1, .int .i64 a0_2, .int .i64 a0_3, .slice A0_4 l0_4.length c0_4]) (t := 26) ?hr ?_; (case hd => rfl); (case hg => rfl); (case hr => first | (go_simp; done) | (go_simp; rfl)); intro gb261 hg w8 hbox hb; have n0_ := zA (below_step (by repeat (first | (with_reducible first | exact HB.out | apply zC | apply zB | apply zF) | exact HB.out)) hb); have n1_ := zA (hbox); have n2_ := zA ((by rw [hg]; exact (zL (by repeat (first | (with_reducible first | exact HB.out | apply zC | apply zB | apply zF) | exact HB.out))) : w.heap.size ≤ gb261)); have n3_ := zA ((by rw [hg]; exact (zL (by repeat (first | (with_reducible first | exact HB.out | apply zC | apply zB | apply zF) | exact HB.out))) : w.heap.size ≤ gb261)); clear HB; have HB := n0_; have BK261 := n1_; have GW261 := n2_; have GE261 := n3_; clear n0_ n1_ n2_ n3_; clear hb hbox hg; have hcz9_0 : w8.cell? ⟨gb261, 0, none⟩ = some (.int .i64 a0_0) := (zK BK261.out 0).trans rfl; have hcz9_1 : w8.cell? ⟨gb261, 1, none⟩ = some (.int .i64 a0_1) := (zK BK261.out 1).trans rfl; have hcz9_2 : w8.cell? ⟨gb261, 2, none⟩ = some (.int .i64 a0_2) := (zK BK261.out 2).trans rfl; have hcz9_3 : w8.cell? ⟨gb261, 3, none⟩ = some (.int .i64 a0_3) := (zK BK261.out 3).trans rfl; have hcz9_4 : w8.cell? ⟨gb261, 4, none⟩ = some (.slice A0_4 l0_4.length c0_4) := (zK BK261.out 4).trans rfl; have hfz9_0 := zJ BK261.out 0; have hfz9_1 := zJ BK261.out 1; have hfz9_2 := zJ BK261.out 2; have hfz9_3 := zJ BK261.out 3; have hfz9_4 := zJ BK261.out 4) | ((with_reducible refine gate_callee (f := 52) rfl ?_); refine goesL_ (some 8) rfl rfl Try.func52 (by kernel_rfl) rfl #[.agg #[.int .i64 a0_0, .int .i64 a0_1, .int .i64 a0_2, .int .i64 a0_3, .slice A0_4 l0_4.length c0_4]] rfl (by (try simp only [zU, zV, zW]); first | done | rfl | (simp only [zR, zQ]; rfl)) ?_; (with_reducible refine (impl_FrameOk.calls a0_0 a0_1 a0_2 a0_3 _ _ l0_4 true _ ?side1 ?side2 A3.out).mono ?_); (case side1 => repeat (first | exact (Kd.C_below HR0_4.out HB.out) | (with_reducible refine yN ?_ _) | (with_reducible refine yL ?_ _) | (with_reducible refine yM ?_))); (case side2 => exact HC0_4.out); rintro e w10 ⟨rfl, hb⟩; refine ⟨_, rfl, ?_⟩; have n0_ := zA (blk_below (g := gb261) (o := .cells #[.int .i64 a0_0, .int .i64 a0_1, .int .i64 a0_2, .int .i64 a0_3, .slice A0_4 l0_4.length c0_4] 26 (0, 0)) (by (with_reducible repeat (first | refine zG ?_ _ | refine zH ?_ | refine zD ?_ _)); exact BK261.out) hb); have n1_ := zA (below_step (by repeat (first | (with_reducible first | exact HB.out | apply zC | apply zB | apply zF | refine zE ?_ GE261.out) | exact HB.out)) hb); clear BK261; clear HB; have BK261 := n0_; have HB := n1_; clear n0_ n1_; (try clear hb); (try clear hb2); (try clear hk); (try clear hi); have hcz11_0 : w10.cell? ⟨gb261, 0, none⟩ = some (.int .i64 a0_0) := (zK BK261.out 0).trans rfl; have hcz11_1 : w10.cell? ⟨gb261, 1, none⟩ = some (.int .i64 a0_1) := (zK BK261.out 1).trans rfl; have hcz11_2 : w10.cell? ⟨gb261, 2, none⟩ = some (.int .i64 a0_2) := (zK BK261.out 2).trans rfl; have hcz11_3 : w10.cell? ⟨gb261, 3, none⟩ = some (.int .i64 a0_3) := (zK BK261.out 3).trans rfl; have hcz11_4 : w10.cell? ⟨gb261, 4, none⟩ = some (.slice A0_4 l0_4.length c0_4) := (zK BK261.out 4).trans rfl; have hfz11_0 := zJ BK261.out 0; have hfz11_1 := zJ BK261.out 1; have hfz11_2 := zJ BK261.out 2; have hfz11_3 := zJ BK261.out 3; have hfz11_4 := zJ BK261.out 4) | ((with_reducible refine gate_callee (f := 59) rfl ?_); refine goesL_ (some 13) rfl rfl Try.func59 (by kernel_rfl) rfl #[.agg #[.int .i64 a0_0, .int .i64 a0_1, .int .i64 a0_2, .int .i64 a0_3, .slice A0_4 l0_4.length c0_4], .slice A1 l1.length c1] rfl (by (try simp only [zU, zV, zW]); first | done | rfl | (simp only [zR, zQ]; rfl)) ?_; (with_reducible refine (impl_leftOf.calls a0_0 a0_1 a0_2 a0_3 _ _ l0_4 _ _ l1 t263 true _ ?side1 ?side2 ?side3 ?side4 A5.out).mono ?_); (case side1 => repeat (first | exact (Kd.C_below HR0_4.out HB.out) | (with_reducible refine yN ?_ _) | (with_reducible refine yL ?_ _) | (with_reducible refine yM ?_))); (case side2 => exact HC0_4.out); (case side3 => repeat (first | exact (Kd.C_below HR1.out HB.out) | (with_reducible refine yN ?_ _) | (with_reducible refine yL ?_ _) | (with_reducible refine yM ?_))); (case side4 => exact HC1.out); rintro e w12 ⟨v264, rfl, ho0, hb⟩; refine ⟨_, rfl, ?_⟩; have n0_ := zA (Kd.S_lower ho0 (zL (by repeat (first | (with_reducible first | exact HB.out | apply zC | apply zB | apply zF | refine zE ?_ GE261.out) | exact HB.out)))); have n1_ := zA (blk_below (g := gb261) (o := .cells #[.int .i64 a0_0, .int .i64 a0_1, .int .i64 a0_2, .int .i64 a0_3, .slice A0_4 l0_4.length c0_4] 26 (0, 0)) (by (with_reducible repeat (first | refine zG ?_ _ | refine zH ?_ | refine zD ?_ _)); exact BK261.out) hb); have n2_ := zA (below_step (by repeat (first | (with_reducible first | exact HB.out | apply zC | apply zB | apply zF | refine zE ?_ GE261.out) | exact HB.out)) hb); clear BK261; clear HB; have HO265 := n0_; have BK261 := n1_; have HB := n2_; clear n0_ n1_ n2_; (try clear hb); (try clear hb2); (try clear hk); (try clear hi); (try clear ho0); obtain ⟨Ao13, co13, eo13⟩ := Kd.S_slice HO265.out; subst eo13) | (go_at_call 60; (with_reducible refine (impl_isWhole.calls _ _ t263 t267 _ ?side1 ?side2 A7.out).mono ?_); (case side1 => repeat (first | exact (Kd.S_reads' HO265.out).2.2 | (with_reducible refine yN ?_ _) | (with_reducible refine yL ?_ _) | (with_reducible refine yM ?_))); (case side2 => exact (Kd.S_reads' HO265.out).2.1); rintro e w14 ⟨rfl, hb⟩; have n0_ := zA (Kd.S_below (by (with_reducible repeat (first | apply yE | apply yF | apply yG)); exact HO265.out) hb); have n1_ := zA (blk_below (g := gb261) (o := .cells #[.int .i64 a0_0, .int .i64 a0_1, .int .i64 a0_2, .int .i64 a0_3, .slice A0_4 l0_4.length c0_4] 26 (0, 0)) (by (with_reducible repeat (first | refine zG ?_ _ | refine zH ?_ | refine zD ?_ _)); exact BK261.out) hb); have n2_ := zA (below_step (by repeat (first | (with_reducible first | exact HB.out | apply zC | apply zB | apply zF | refine zE ?_ GE261.out) | exact HB.out)) hb); clear HO265; clear BK261; clear HB; have HO265 := n0_; have BK261 := n1_; have HB := n2_; clear n0_ n1_ n2_; (try clear hb); (try clear hb2); (try clear hk); (try clear hi)))
   go_ret
   exact ⟨by first | rfl | (simp [errW_none, errW_some] <;> rfl) | (simp [*, errW_none, errW_some] <;> rfl), by repeat (first | (with_reducible first | exact HB.out | apply zC | apply zB | apply zF | refine zE ?_ GE261.out) | exact HB.out)⟩
  ·replace c6 := Bool.eq_false_iff.mpr c6
   subst c6
   have H1 : (some false) = some r := by rw [if_neg (show ¬ (false = true) by decide)] at H; exact H
   clear H
   have H := H1
   clear H1
   obtain rfl := Option.some.inj H
   go_enter Try.func13, Try.ntmps13
   go_wp2_with (first | ((with_reducible refine gate_dst (N := 2) rfl ?_); refine box_event ?hg (N := 2) ?hd (cs := #[.int .i64 a0_0, .int .i64 a0_1, .int .i64 a0_2, .int .i64 a0_3, .slice A0_4 l0_4.length c0_4]) (t := 26) ?hr ?_; (case hd => rfl); (case hg => rfl); (case hr => first | (go_simp; done) | (go_simp; rfl)); intro gb261 hg w15 hbox hb; have n0_ := zA (below_step (by repeat (first | (with_reducible first | exact HB.out | apply zC | apply zB | apply zF) | exact HB.out)) hb); have n1_ := zA (hbox); have n2_ := zA ((by rw [hg]; exact (zL (by repeat (first | (with_reducible first | exact HB.out | apply zC | apply zB | apply zF) | exact HB.out))) : w.heap.size ≤ gb261)); have n3_ := zA ((by rw [hg]; exact (zL (by repeat (first | (with_reducible first | exact HB.out | apply zC | apply zB | apply zF) | exact HB.out))) : w.heap.size ≤ gb261)); clear HB; have HB := n0_; have BK261 := n1_; have GW261 := n2_; have GE261 := n3_; clear n0_ n1_ n2_ n3_; clear hb hbox hg; have hcz16_0 : w15.cell? ⟨gb261, 0, none⟩ = some (.int .i64 a0_0) := (zK BK261.out 0).trans rfl; have hcz16_1 : w15.cell? ⟨gb261, 1, none⟩ = some (.int .i64 a0_1) := (zK BK261.out 1).trans rfl; have hcz16_2 : w15.cell? ⟨gb261, 2, none⟩ = some (.int .i64 a0_2) := (zK BK261.out 2).trans rfl; have hcz16_3 : w15.cell? ⟨gb261, 3, none⟩ = some (.int .i64 a0_3) := (zK BK261.out 3).trans rfl; have hcz16_4 : w15.cell? ⟨gb261, 4, none⟩ = some (.slice A0_4 l0_4.length c0_4) := (zK BK261.out 4).trans rfl; have hfz16_0 := zJ BK261.out 0; have hfz16_1 := zJ BK261.out 1; have hfz16_2 := zJ BK261.out 2; have hfz16_3 := zJ BK261.out 3; have hfz16_4 := zJ BK261.out 4) | ((with_reducible refine gate_callee (f := 52) rfl ?_); refine goesL_ (some 8) rfl rfl Try.func52 (by kernel_rfl) rfl #[.agg #[.int .i64 a0_0, .int .i64 a0_1, .int .i64 a0_2, .int .i64 a0_3, .slice A0_4 l0_4.length c0_4]] rfl (by (try simp only [zU, zV, zW]); first | done | rfl | (simp only [zR, zQ]; rfl)) ?_; (with_reducible refine (impl_FrameOk.calls a0_0 a0_1 a0_2 a0_3 _ _ l0_4 true _ ?side1 ?side2 A3.out).mono ?_); (case side1 => repeat (first | exact (Kd.C_below HR0_4.out HB.out) | (with_reducible refine yN ?_ _) | (with_reducible refine yL ?_ _) | (with_reducible refine yM ?_))); (case side2 => exact HC0_4.out); rintro e w17 ⟨rfl, hb⟩; refine ⟨_, rfl, ?_⟩; have n0_ := zA (blk_below (g := gb261) (o := .cells #[.int .i64 a0_0, .int .i64 a0_1, .int .i64 a0_2, .int .i64 a0_3, .slice A0_4 l0_4.length c0_4] 26 (0, 0)) (by (with_reducible repeat (first | refine zG ?_ _ | refine zH ?_ | refine zD ?_ _)); exact BK261.out) hb); have n1_ := zA (below_step (by repeat (first | (with_reducible first | exact HB.out | apply zC | apply zB | apply zF | refine zE ?_ GE261.out) | exact HB.out)) hb); clear BK261; clear HB; have BK261 := n0_; have HB := n1_; clear n0_ n1_; (try clear hb); (try clear hb2); (try clear hk); (try clear hi); have hcz18_0 : w17.cell? ⟨gb261, 0, none⟩ = some (.int .i64 a0_0) := (zK BK261.out 0).trans rfl; have hcz18_1 : w17.cell? ⟨gb261, 1, none⟩ = some (.int .i64 a0_1) := (zK BK261.out 1).trans rfl; have hcz18_2 : w17.cell? ⟨gb261, 2, none⟩ = some (.int .i64 a0_2) := (zK BK261.out 2).trans rfl; have hcz18_3 : w17.cell? ⟨gb261, 3, none⟩ = some (.int .i64 a0_3) := (zK BK261.out 3).trans rfl; have hcz18_4 : w17.cell? ⟨gb261, 4, none⟩ = some (.slice A0_4 l0_4.length c0_4) := (zK BK261.out 4).trans rfl; have hfz18_0 := zJ BK261.out 0; have hfz18_1 := zJ BK261.out 1; have hfz18_2 := zJ BK261.out 2; have hfz18_3 := zJ BK261.out 3; have hfz18_4 := zJ BK261.out 4) | ((with_reducible refine gate_callee (f := 59) rfl ?_); refine goesL_ (some 13) rfl rfl Try.func59 (by kernel_rfl) rfl #[.agg #[.int .i64 a0_0, .int .i64 a0_1, .int .i64 a0_2, .int .i64 a0_3, .slice A0_4 l0_4.length c0_4], .slice A1 l1.length c1] rfl (by (try simp only [zU, zV, zW]); first | done | rfl | (simp only [zR, zQ]; rfl)) ?_; (with_reducible refine (impl_leftOf.calls a0_0 a0_1 a0_2 a0_3 _ _ l0_4 _ _ l1 t263 false _ ?side1 ?side2 ?side3 ?side4 A5.out).mono ?_); (case side1 => repeat (first | exact (Kd.C_below HR0_4.out HB.out) | (with_reducible refine yN ?_ _) | (with_reducible refine yL ?_ _) | (with_reducible refine yM ?_))); (case side2 => exact HC0_4.out); (case side3 => repeat (first | exact (Kd.C_below HR1.out HB.out) | (with_reducible refine yN ?_ _) | (with_reducible refine yL ?_ _) | (with_reducible refine yM ?_))); (case side4 => exact HC1.out); rintro e w19 ⟨v264, rfl, ho0, hb⟩; refine ⟨_, rfl, ?_⟩; have n0_ := zA (Kd.S_lower ho0 (zL (by repeat (first | (with_reducible first | exact HB.out | apply zC | apply zB | apply zF | refine zE ?_ GE261.out) | exact HB.out)))); have n1_ := zA (blk_below (g := gb261) (o := .cells #[.int .i64 a0_0, .int .i64 a0_1, .int .i64 a0_2, .int .i64 a0_3, .slice A0_4 l0_4.length c0_4] 26 (0, 0)) (by (with_reducible repeat (first | refine zG ?_ _ | refine zH ?_ | refine zD ?_ _)); exact BK261.out) hb); have n2_ := zA (below_step (by repeat (first | (with_reducible first | exact HB.out | apply zC | apply zB | apply zF | refine zE ?_ GE261.out) | exact HB.out)) hb); clear BK261; clear HB; have HO265 := n0_; have BK261 := n1_; have HB := n2_; clear n0_ n1_ n2_; (try clear hb); (try clear hb2); (try clear hk); (try clear hi); (try clear ho0)))
   go_ret
   exact ⟨by first | rfl | (simp [errW_none, errW_some] <;> rfl) | (simp [*, errW_none, errW_some] <;> rfl), by repeat (first | (with_reducible first | exact HB.out | apply zC | apply zB | apply zF | refine zE ?_ GE261.out) | exact HB.out)⟩
 ·replace c4 := Bool.eq_false_iff.mpr c4
  subst c4
  have H1 : (some false) = some r := by rw [if_neg (show ¬ (false = true) by decide)] at H; exact H
  clear H
  have H := H1
  clear H1
  obtain rfl := Option.some.inj H
  go_enter Try.func13, Try.ntmps13
  go_wp2_with (first | ((with_reducible refine gate_dst (N := 2) rfl ?_); refine box_event ?hg (N := 2) ?hd (cs := #[.int .i64 a0_0, .int .i64 a0_1, .int .i64 a0_2, .int .i64 a0_3, .slice A0_4 l0_4.length c0_4]) (t := 26) ?hr ?_; (case hd => rfl); (case hg => rfl); (case hr => first | (go_simp; done) | (go_simp; rfl)); intro gb261 hg w20 hbox hb; have n0_ := zA (below_step (by repeat (first | (with_reducible first | exact HB.out | apply zC | apply zB | apply zF) | exact HB.out)) hb); have n1_ := zA (hbox); have n2_ := zA ((by rw [hg]; exact (zL (by repeat (first | (with_reducible first | exact HB.out | apply zC | apply zB | apply zF) | exact HB.out))) : w.heap.size ≤ gb261)); have n3_ := zA ((by rw [hg]; exact (zL (by repeat (first | (with_reducible first | exact HB.out | apply zC | apply zB | apply zF) | exact HB.out))) : w.heap.size ≤ gb261)); clear HB; have HB := n0_; have BK261 := n1_; have GW261 := n2_; have GE261 := n3_; clear n0_ n1_ n2_ n3_; clear hb hbox hg; have hcz21_0 : w20.cell? ⟨gb261, 0, none⟩ = some (.int .i64 a0_0) := (zK BK261.out 0).trans rfl; have hcz21_1 : w20.cell? ⟨gb261, 1, none⟩ = some (.int .i64 a0_1) := (zK BK261.out 1).trans rfl; have hcz21_2 : w20.cell? ⟨gb261, 2, none⟩ = some (.int .i64 a0_2) := (zK BK261.out 2).trans rfl; have hcz21_3 : w20.cell? ⟨gb261, 3, none⟩ = some (.int .i64 a0_3) := (zK BK261.out 3).trans rfl; have hcz21_4 : w20.cell? ⟨gb261, 4, none⟩ = some (.slice A0_4 l0_4.length c0_4) := (zK BK261.out 4).trans rfl; have hfz21_0 := zJ BK261.out 0; have hfz21_1 := zJ BK261.out 1; have hfz21_2 := zJ BK261.out 2; have hfz21_3 := zJ BK261.out 3; have hfz21_4 := zJ BK261.out 4) | ((with_reducible refine gate_callee (f := 52) rfl ?_); refine goesL_ (some 8) rfl rfl Try.func52 (by kernel_rfl) rfl #[.agg #[.int .i64 a0_0, .int .i64 a0_1, .int .i64 a0_2, .int .i64 a0_3, .slice A0_4 l0_4.length c0_4]] rfl (by (try simp only [zU, zV, zW]); first | done | rfl | (simp only [zR, zQ]; rfl)) ?_; (with_reducible refine (impl_FrameOk.calls a0_0 a0_1 a0_2 a0_3 _ _ l0_4 false _ ?side1 ?side2 A3.out).mono ?_); (case side1 => repeat (first | exact (Kd.C_below HR0_4.out HB.out) | (with_reducible refine yN ?_ _) | (with_reducible refine yL ?_ _) | (with_reducible refine yM ?_))); (case side2 => exact HC0_4.out); rintro e w22 ⟨rfl, hb⟩; refine ⟨_, rfl, ?_⟩; have n0_ := zA (blk_below (g := gb261) (o := .cells #[.int .i64 a0_0, .int .i64 a0_1, .int .i64 a0_2, .int .i64 a0_3, .slice A0_4 l0_4.length c0_4] 26 (0, 0)) (by (with_reducible repeat (first | refine zG ?_ _ | refine zH ?_ | refine zD ?_ _)); exact BK261.out) hb); have n1_ := zA (below_step (by repeat (first | (with_reducible first | exact HB.out | apply zC | apply zB | apply zF | refine zE ?_ GE261.out) | exact HB.out)) hb); clear BK261; clear HB; have BK261 := n0_; have HB := n1_; clear n0_ n1_; (try clear hb); (try clear hb2); (try clear hk); (try clear hi)))
  go_ret
  exact ⟨by first | rfl | (simp [errW_none, errW_some] <;> rfl) | (simp [*, errW_none, errW_some] <;> rfl), by repeat (first | (with_reducible first | exact HB.out | apply zC | apply zB | apply zF | refine zE ?_ GE261.out) | exact HB.out)⟩
theorem impl_ScriptOk.val (p w h r : Int) (l : List SC) (script : List SN) (hm : script.length ≤ 2000000) (hsl : ∀ s ∈ script, s.f0.length ≤ 2000000) : impl_ScriptOk.f p w h r l script = some (scriptOkM p w h r l script) := by
 unfold impl_ScriptOk.f scriptOkM
 rw [show impl_FrameOk.f p w h r l = some (frameOkM p w h r l) from rfl, zS]
 by_cases hF : frameOkM p w h r l = true
 ·rw [if_pos hF, hF, Bool.true_and]
  have hl := frameOk_len hF
  have e : impl_leftOf.f p w h r l script = some (leftRes (leftM l.length script)) := by unfold impl_leftOf.f; rw [if_pos ⟨hF, hm, hsl⟩]
  rw [e, zS]
  cases hL : leftM l.length script with
  | none => rfl
  | some L =>
   have h64 := leftM_rows hL
   have h1 := h64.1
   show (if true = true then (impl_isWhole.f L).bind fun t390 => some t390 else some false) = some (L.all (allW 0 0))
   rw [if_pos rfl]
   have e2 : impl_isWhole.f L = some (wholeM L) := by
    unfold impl_isWhole.f
    rw [if_pos ⟨by omega, fun x hx => by have := h64.2 x hx; omega⟩]
   rw [e2]; rfl
 ·rw [if_neg hF, Bool.eq_false_iff.2 hF, Bool.false_and]
end Go.Proofs.Ytilimpjcdeeaiaa.G


namespace Go.Proofs.Ytilimpjcdeeaiaa.G
open Go.RowKit Go.Proofs.YtilimpjcdeeaiaaW.PrintWords Go.Proofs.YtilimpjcdeeaiaaW.PrintLast Go.Proofs.YtilimpjcdeeaiaaW.PrintMore
attribute [local go_sem] max2_int min2_int max_two min_two max_three min_three max_four min_four   -- for this text's walks alone
def impl_LeftOf.f (a0_0 : Int) (a0_1 : Int) (a0_2 : Int) (a0_3 : Int) (l0_4 : List (S102)) (l1 : List (S38)) : Option ((List (List Int))) := (impl_FrameOk.f a0_0 a0_1 a0_2 a0_3 l0_4).bind fun t269 => (if t269 = true then ((impl_leftOf.f a0_0 a0_1 a0_2 a0_3 l0_4 l1).bind fun bt270 => (some bt270.1)) else (some ([] : List (List Int))))
set_option maxHeartbeats 8000000 in
set_option maxRecDepth 100000 in
theorem impl_LeftOf.calls (a0_0 : Int) (a0_1 : Int) (a0_2 : Int) (a0_3 : Int) (A0_4 : Option Addr) (c0_4 : Nat) (l0_4 : List (S102)) (A1 : Option Addr) (c1 : Nat) (l1 : List (S38)) (r : List (List Int)) (w : World) (hr0_4 : Kd.C k102 w A0_4 l0_4.length l0_4) (hc0_4 : l0_4.length ≤ c0_4) (hr1 : Kd.C k38 w A1 l1.length l1) (hc1 : l1.length ≤ c1) (h : impl_LeftOf.f a0_0 a0_1 a0_2 a0_3 l0_4 l1 = some r) :
  Calls Try.prog 14 #[.agg #[.int .i64 a0_0, .int .i64 a0_1, .int .i64 a0_2, .int .i64 a0_3, .slice A0_4 l0_4.length c0_4], .slice A1 l1.length c1] w fun e w' => ∃ v0_ : Value, e = .returned (v0_) ∧ Kd.S (Kd.slice 3 (Kd.int .i64)) 36 w' w.heap.size (fun _ => True) v0_ r ∧ Below w.heap.size w w' := by
 have hu26 := Try.underlying26
 have HR0_4 := zA hr0_4
 have HC0_4 := zA hc0_4
 clear hr0_4 hc0_4
 have HR1 := zA hr1
 have HC1 := zA hc1
 clear hr1 hc1
 have HB := zA (Below.refl w.heap.size w)
 have H : ((impl_FrameOk.f a0_0 a0_1 a0_2 a0_3 l0_4).bind fun t269 => (if t269 = true then ((impl_leftOf.f a0_0 a0_1 a0_2 a0_3 l0_4 l1).bind fun bt270 => (some bt270.1)) else (some ([] : List (List Int))))) = some r := h
 clear h
 replace H := Option.bind_eq_some_iff.mp H
 obtain ⟨t269, A30, H⟩ := H
 replace H : (if t269 = true then ((impl_leftOf.f a0_0 a0_1 a0_2 a0_3 l0_4 l1).bind fun bt270 => (some bt270.1)) else (some ([] : List (List Int)))) = some r := H
 have A3 := zA A30
 clear A30
 by_cases c4 : t269 = true
 ·subst c4
  have H1 : ((impl_leftOf.f a0_0 a0_1 a0_2 a0_3 l0_4 l1).bind fun bt270 => (some bt270.1)) = some r := by rw [if_pos rfl] at H; exact H
  clear H
  have H := H1
  clear H1
  replace H := Option.bind_eq_some_iff.mp H
  obtain ⟨⟨t270, t273⟩, A50, H⟩ := H
  replace H : (some t270) = some r := H
  have A5 := zA A50
  clear A50
  obtain rfl := Option.some.inj H
  go_enter Try.func14, Try.ntmps14
  go_wp2_with (first | ((with_reducible refine gate_dst (N := 2) rfl ?_); refine box_event ?hg (N := 2) ?hd (cs := #[.int .i64 a0_0, .int .i64 a0_1, .int .i64 a0_2, .int .i64 a0_3, .slice A0_4 l0_4.length c0_4]) (t := 26) ?hr ?_; (case hd => rfl); (case hg => rfl); (case hr => first | (go_simp; done) | (go_simp; rfl)); intro gb268 hg w6 hbox hb; have n0_ := zA (below_step (by repeat (first | (with_reducible first | exact HB.out | apply zC | apply zB | apply zF) | exact HB.out)) hb); have n1_ := zA (hbox); have n2_ := zA ((by rw [hg]; exact (zL (by repeat (first | (with_reducible first | exact HB.out | apply zC | apply zB | apply zF) | exact HB.out))) : w.heap.size ≤ gb268)); have n3_ := zA ((by rw [hg]; exact (zL (by repeat (first | (with_reducible first | exact HB.out | apply zC | apply zB | apply zF) | exact HB.out))) : w.heap.size ≤ gb268)); clear HB; have HB := n0_; have BK268 := n1_; have GW268 := n2_; have GE268 := n3_; clear n0_ n1_ n2_ n3_; clear hb hbox hg; have hcz7_0 : w6.cell? ⟨gb268, 0, none⟩ = some (.int .i64 a0_0) := (zK BK268.out 0).trans rfl; have hcz7_1 : w6.cell? ⟨gb268, 1, none⟩ = some (.int .i64 a0_1) := (zK BK268.out 1).trans rfl; have hcz7_2 : w6.cell? ⟨gb268, 2, none⟩ = some (.int .i64 a0_2) := (zK BK268.out 2).trans rfl; have hcz7_3 : w6.cell? ⟨gb268, 3, none⟩ = some (.int .i64 a0_3) := (zK BK268.out 3).trans rfl; have hcz7_4 : w6.cell? ⟨gb268, 4, none⟩ = some (.slice A0_4 l0_4.length c0_4) := (zK BK268.out 4).trans rfl; have hfz7_0 := zJ BK268.out 0; have hfz7_1 := zJ BK268.out 1; have hfz7_2 := zJ BK268.out 2; have hfz7_3 := zJ BK268.out 3; have hfz7_4 := zJ BK268.out 4) | ((with_reducible refine gate_callee (f := 52) rfl ?_); refine goesL_ (some 8) rfl rfl Try.func52 (by kernel_rfl) rfl #[.agg #[.int .i64 a0_0, .int .i64 a0_1, .int .i64 a0_2, .int .i64 a0_3, .slice A0_4 l0_4.length c0_4]] rfl (by (try simp only [zU, zV, zW]); first | done | rfl | (simp only [zR, zQ]; rfl)) ?_; (with_reducible refine (impl_FrameOk.calls a0_0 a0_1 a0_2 a0_3 _ _ l0_4 true _ ?side1 ?side2 A3.out).mono ?_); (case side1 => repeat (first | exact (Kd.C_below HR0_4.out HB.out) | (with_reducible refine yN ?_ _) | (with_reducible refine yL ?_ _) | (with_reducible refine yM ?_))); (case side2 => exact HC0_4.out); rintro e w8 ⟨rfl, hb⟩; refine ⟨_, rfl, ?_⟩; have n0_ := zA (blk_below (g := gb268) (o := .cells #[.int .i64 a0_0, .int .i64 a0_1, .int .i64 a0_2, .int .i64 a0_3, .slice A0_4 l0_4.length c0_4] 26 (0, 0)) (by (with_reducible repeat (first | refine zG ?_ _ | refine zH ?_ | refine zD ?_ _)); exact BK268.out) hb); have n1_ := zA (below_step (by repeat (first | (with_reducible first | exact HB.out | apply zC | apply zB | apply zF | refine zE ?_ GE268.out) | exact HB.out)) hb); clear BK268; clear HB; have BK268 := n0_; have HB := n1_; clear n0_ n1_; (try clear hb); (try clear hb2); (try clear hk); (try clear hi); have hcz9_0 : w8.cell? ⟨gb268, 0, none⟩ = some (.int .i64 a0_0) := (zK BK268.out 0).trans rfl; have hcz9_1 : w8.cell? ⟨gb268, 1, none⟩ = some (.int .i64 a0_1) := (zK BK268.out 1).trans rfl; have hcz9_2 : w8.cell? ⟨gb268, 2, none⟩ = some (.int .i64 a0_2) := (zK BK268.out 2).trans rfl; have hcz9_3 : w8.cell? ⟨gb268, 3, none⟩ = some (.int .i64 a0_3) := (zK BK268.out 3).trans rfl; have hcz9_4 : w8.cell? ⟨gb268, 4, none⟩ = some (.slice A0_4 l0_4.length c0_4) := (zK BK268.out 4).trans rfl; have hfz9_0 := zJ BK268.out 0; have hfz9_1 := zJ BK268.out 1; have hfz9_2 := zJ BK268.out 2; have hfz9_3 := zJ BK268.out 3; have hfz9_4 := zJ BK268.out 4) | ((with_reducible refine gate_callee (f := 59) rfl ?_); refine goesL_ (some 13) rfl rfl Try.func59 (by kernel_rfl) rfl #[.agg #[.int .i64 a0_0, .int .i64 a0_1, .int .i64 a0_2, .int .i64 a0_3, .slice A0_4 l0_4.length c0_4], .slice A1 l1.length c1] rfl (by (try simp only [zU, zV, zW]); first | done | rfl | (simp only [zR, zQ]; rfl)) ?_; (with_reducible refine (impl_leftOf.calls a0_0 a0_1 a0_2 a0_3 _ _ l0_4 _ _ l1 t270 t273 _ ?side1 ?side2 ?side3 ?side4 A5.out).mono ?_); (case side1 => repeat (first | exact (Kd.C_below HR0_4.out HB.out) | (with_reducible refine yN ?_ _) | (with_reducible refine yL ?_ _) | (with_reducible refine yM ?_))); (case side2 => exact HC0_4.out); (case side3 => repeat (first | exact (Kd.C_below HR1.out HB.out) | (with_reducible refine yN ?_ _) | (with_reducible refine yL ?_ _) | (with_reducible refine yM ?_))); (case side4 => exact HC1.out); rintro e w10 ⟨v271, rfl, ho0, hb⟩; refine ⟨_, rfl, ?_⟩; have n0_ := zA (Kd.S_lower ho0 (zL (by repeat (first | (with_reducible first | exact HB.out | apply zC | apply zB | apply zF | refine zE ?_ GE268.out) | exact HB.out)))); have n1_ := zA (blk_below (g := gb268) (o := .cells #[.int .i64 a0_0, .int .i64 a0_1, .int .i64 a0_2, .int .i64 a0_3, .slice A0_4 l0_4.length c0_4] 26 (0, 0)) (by (with_reducible repeat (first | refine zG ?_ _ | refine zH ?_ | refine zD ?_ _)); exact BK268.out) hb); have n2_ := zA (below_step (by repeat (first | (with_reducible first | exact HB.out | apply zC | apply zB | apply zF | refine zE ?_ GE268.out) | exact HB.out)) hb); clear BK268; clear HB; have HO272 := n0_; have BK268 := n1_; have HB := n2_; clear n0_ n1_ n2_; (try clear hb); (try clear hb2); (try clear hk); (try clear hi); (try clear ho0)))
  go_ret
  exact ⟨_, by first | rfl | (simp [errW_none, errW_some] <;> rfl) | (simp [*, errW_none, errW_some] <;> rfl), by (with_reducible repeat (first | apply yE | apply yF | apply yG)); exact HO272.out, by repeat (first | (with_reducible first | exact HB.out | apply zC | apply zB | apply zF | refine zE ?_ GE268.out) | exact HB.out)⟩
 ·replace c4 := Bool.eq_false_iff.mpr c4
  subst c4
  have H1 : (some ([] : List (List Int))) = some r := by rw [if_neg (show ¬ (false = true) by decide)] at H; exact H
  clear H
  have H := H1
  clear H1
  obtain rfl := Option.some.inj H
  go_enter Try.func14, Try.ntmps14
  go_wp2_with (first | ((with_reducible refine gate_dst (N := 2) rfl ?_); refine box_event ?hg (N := 2) ?hd (cs := #[.int .i64 a0_0, .int .i64 a0_1, .int .i64 a0_2, .int .i64 a0_3, .slice A0_4 l0_4.length c0_4]) (t := 26) ?hr ?_; (case hd => rfl); (case hg => rfl); (case hr => first | (go_simp; done) | (go_simp; rfl)); intro gb268 hg w11 hbox hb; have n0_ := zA (below_step (by repeat (first | (with_reducible first | exact HB.out | apply zC | apply zB | apply zF) | exact HB.out)) hb); have n1_ := zA (hbox); have n2_ := zA ((by rw [hg]; exact (zL (by repeat (first | (with_reducible first | exact HB.out | apply zC | apply zB | apply zF) | exact HB.out))) : w.heap.size ≤ gb268)); have n3_ := zA ((by rw [hg]; exact (zL (by repeat (first | (with_reducible first | exact HB.out | apply zC | apply zB | apply zF) | exact HB.out))) : w.heap.size ≤ gb268)); clear HB; have HB := n0_; have BK268 := n1_; have GW268 := n2_; have GE268 := n3_; clear n0_ n1_ n2_ n3_; clear hb hbox hg; have hcz12_0 : w11.cell? ⟨gb268, 0, none⟩ = some (.int .i64 a0_0) := (zK BK268.out 0).trans rfl; have hcz12_1 : w11.cell? ⟨gb268, 1, none⟩ = some (.int .i64 a0_1) := (zK BK268.out 1).trans rfl; have hcz12_2 : w11.cell? ⟨gb268, 2, none⟩ = some (.int .i64 a0_2) := (zK BK268.out 2).trans rfl; have hcz12_3 : w11.cell? ⟨gb268, 3, none⟩ = some (.int .i64 a0_3) := (zK BK268.out 3).trans rfl; have hcz12_4 : w11.cell? ⟨gb268, 4, none⟩ = some (.slice A0_4 l0_4.length c0_4) := (zK BK268.out 4).trans rfl; have hfz12_0 := zJ BK268.out 0; have hfz12_1 := zJ BK268.out 1; have hfz12_2 := zJ BK268.out 2; have hfz12_3 := zJ BK268.out 3; have hfz12_4 := zJ BK268.out 4) | ((with_reducible refine gate_callee (f := 52) rfl ?_); refine goesL_ (some 8) rfl rfl Try.func52 (by kernel_rfl) rfl #[.agg #[.int .i64 a0_0, .int .i64 a0_1, .int .i64 a0_2, .int .i64 a0_3, .slice A0_4 l0_4.length c0_4]] rfl (by (try simp only [zU, zV, zW]); first | done | rfl | (simp only [zR, zQ]; rfl)) ?_; (with_reducible refine (impl_FrameOk.calls a0_0 a0_1 a0_2 a0_3 _ _ l0_4 false _ ?side1 ?side2 A3.out).mono ?_); (case side1 => repeat (first | exact (Kd.C_below HR0_4.out HB.out) | (with_reducible refine yN ?_ _) | (with_reducible refine yL ?_ _) | (with_reducible refine yM ?_))); (case side2 => exact HC0_4.out); rintro e w13 ⟨rfl, hb⟩; refine ⟨_, rfl, ?_⟩; have n0_ := zA (blk_below (g := gb268) (o := .cells #[.int .i64 a0_0, .int .i64 a0_1, .int .i64 a0_2, .int .i64 a0_3, .slice A0_4 l0_4.length c0_4] 26 (0, 0)) (by (with_reducible repeat (first | refine zG ?_ _ | refine zH ?_ | refine zD ?_ _)); exact BK268.out) hb); have n1_ := zA (below_step (by repeat (first | (with_reducible first | exact HB.out | apply zC | apply zB | apply zF | refine zE ?_ GE268.out) | exact HB.out)) hb); clear BK268; clear HB; have BK268 := n0_; have HB := n1_; clear n0_ n1_; (try clear hb); (try clear hb2); (try clear hk); (try clear hi)))
  go_ret
  exact ⟨_, by first | rfl | (simp [errW_none, errW_some] <;> rfl) | (simp [*, errW_none, errW_some] <;> rfl), by first | exact Kd.S_nil _ _ _ _ _ | exact Kd.N_nil _ _ _ _ _ | exact Kd.V_nil _ _ _ _ _ | exact Kd.Q_nil _ _ _ _ _ | exact Kd.R_nil _ _ _ _ _, by repeat (first | (with_reducible first | exact HB.out | apply zC | apply zB | apply zF | refine zE ?_ GE268.out) | exact HB.out)⟩
end Go.Proofs.Ytilimpjcdeeaiaa.G


namespace Go.Proofs.Ytilimpjcdeeaiaa.G
open Go.RowKit Go.Proofs.YtilimpjcdeeaiaaW.PrintWords Go.Proofs.YtilimpjcdeeaiaaW.PrintLast Go.Proofs.YtilimpjcdeeaiaaW.PrintMore
attribute [local go_sem] max2_int min2_int max_two min_two max_three min_three max_four min_four   -- for this text's walks alone
def laws_sameLists.l0 : Nat → List (List Int) → List (List Int) → Int → Option (Bool)
 | 0, _, _, _ => none
 | k + 1, x0, x1, x5 => if x5 < (x0.length : Int) then (if 0 ≤ x5 then (if x5 < (x1.length : Int) then ((laws_sameInts.f k (rd_L3 x0 x5) (rd_L3 x1 x5)).bind fun t276 => (if t276 = true then (laws_sameLists.l0 k x0 x1 (wrap64 (x5 + 1))) else (some false))) else (none)) else (none)) else (some true)
def laws_sameLists.f (k : Nat) (l0 : List (List Int)) (l1 : List (List Int)) : Option (Bool) := if (l0.length : Int) = (l1.length : Int) then (laws_sameLists.l0 k l0 l1 0) else (some false)
set_option maxHeartbeats 8000000 in
set_option maxRecDepth 100000 in
theorem laws_sameLists.calls (k : Nat) (A0 : Option Addr) (c0 : Nat) (l0 : List (List Int)) (A1 : Option Addr) (c1 : Nat) (l1 : List (List Int)) (r : Bool) (w : World) (hr0 : Kd.C (Kd.slice 3 (Kd.int .i64)) w A0 l0.length l0) (hc0 : l0.length ≤ c0) (hr1 : Kd.C (Kd.slice 3 (Kd.int .i64)) w A1 l1.length l1) (hc1 : l1.length ≤ c1) (h : laws_sameLists.f k l0 l1 = some r) :
  Calls Try.prog 15 #[.slice A0 l0.length c0, .slice A1 l1.length c1] w fun e w' => e = .returned (.bool r) ∧ Drawn0 w w' := by
 have HR0 := zA hr0
 have HC0 := zA hc0
 clear hr0 hc0
 have HR1 := zA hr1
 have HC1 := zA hc1
 clear hr1 hc1
 have H : (if (l0.length : Int) = (l1.length : Int) then (laws_sameLists.l0 k l0 l1 0) else (some false)) = some r := h
 clear h
 by_cases c3 : (l0.length : Int) = (l1.length : Int)
 ·rw [if_pos c3] at H
  have c3b0 : ((l0.length : Int) == (l1.length : Int)) = true := beq_iff_eq.mpr c3
  have c3b1 : ((l0.length : Int) != (l1.length : Int)) = false := bne_eq_false_iff_eq.mpr c3
  have c3b2 : (l0.length == l1.length) = true := by first | simpa using c3 | (simp at c3 ⊢; omega)
  clear c3
  have H' := zA H
  clear H
  go_enter Try.func15, Try.ntmps15
  go_wp2
  repeat (go_quiet (fail); try go_wp2)
  go_loopg [5] k (fun kq v5 w' => ∃ (x5_1 : Int), v5 = .int .i64 x5_1 ∧ Aside0 (laws_sameLists.l0 kq l0 l1 x5_1 = some r) ∧ Aside0 (kq ≤ k) ∧ Drawn0 w w')
  case atStart => exact ⟨(0), (by first | rfl | (simp; done) | (simp [*]; done)), H', ⟨Nat.le_refl _⟩, by repeat (first | exact Drawn0.refl _ | apply Drawn0.step)⟩
  case round =>
   clear H'
   try clear c1
   try clear p2
   try clear c3
   try clear c3b0
   try clear c3b1
   try clear c3b2
   obtain ⟨x5_1, rfl, HA, HK1, ⟨m1, rfl⟩⟩ := hrel
   cases gk with
   | zero => exact absurd HA.out (by simp [laws_sameLists.l0])
   | succ k1 =>
    have H := HA.out
    clear HA
    simp only [laws_sameLists.l0] at H
    by_cases c4 : x5_1 < (l0.length : Int)
    ·rw [if_pos c4] at H
     have c4b0 : decide (x5_1 < (l0.length : Int)) = true := zT c4
     clear c4
     by_cases c5 : 0 ≤ x5_1
     ·rw [if_pos c5] at H
      have c5b0 : decide (0 ≤ x5_1) = true := zT c5
      clear c5
      by_cases c6 : x5_1 < (l1.length : Int)
      ·rw [if_pos c6] at H
       have c6b0 : decide (x5_1 < (l1.length : Int)) = true := zT c6
       clear c6
       replace H := Option.bind_eq_some_iff.mp H
       obtain ⟨t276, A70, H⟩ := H
       replace H : (if t276 = true then (laws_sameLists.l0 k1 l0 l1 (wrap64 (x5_1 + 1))) else (some false)) = some r := H
       have A7 := zA A70
       clear A70
       by_cases c8 : t276 = true
       ·subst c8
        have H1 : (laws_sameLists.l0 k1 l0 l1 (wrap64 (x5_1 + 1))) = some r := by rw [if_pos rfl] at H; exact H
        clear H
        have H := H1
        clear H1
        have H' := zA H
        clear H
        have p274 : 0 ≤ (x5_1 : Int) := zI (by first | (with_reducible assumption) | assumption)
        have q274 : x5_1 < (l0.length : Int) := zI (by first | (with_reducible assumption) | assumption)
        obtain ⟨ad274, A274_0, c274_0, e274, hx274_0, hl274_0, hi274_0⟩ := at_L3 HR0.out x5_1 p274 q274
        cases e274
        have HR274_0 := zA hi274_0
        have HC274_0 := zA hl274_0
        clear hi274_0 hl274_0
        replace p274 := eq_true p274
        replace q274 := eq_true q274
        have p275 : 0 ≤ (x5_1 : Int) := zI (by first | (with_reducible assumption) | assumption)
        have q275 : x5_1 < (l1.length : Int) := zI (by first | (with_reducible assumption) | assumption)
        obtain ⟨ad275, A275_0, c275_0, e275, hx275_0, hl275_0, hi275_0⟩ := at_L3 HR1.out x5_1 p275 q275
        cases e275
        have HR275_0 := zA hi275_0
        have HC275_0 := zA hl275_0
        clear hi275_0 hl275_0
        replace p275 := eq_true p275
        replace q275 := eq_true q275
        go_wp2_with (first | (go_at_call 23; (with_reducible refine (laws_sameInts.calls k1 _ _ (rd_L3 l0 x5_1) _ _ (rd_L3 l1 x5_1) true _ ?side1 ?side2 ?side3 ?side4 A7.out).mono ?_); (case side1 => repeat (first | exact HR274_0.out | (with_reducible refine yN ?_ _) | (with_reducible refine yL ?_ _) | (with_reducible refine yM ?_))); (case side2 => exact HC274_0.out); (case side3 => repeat (first | exact HR275_0.out | (with_reducible refine yN ?_ _) | (with_reducible refine yL ?_ _) | (with_reducible refine yM ?_))); (case side4 => exact HC275_0.out); rintro e w' ⟨rfl, ⟨nd, rfl⟩⟩; (try first | exact ⟨rfl, _, World.drewN_drewN _ _ _⟩ | exact ⟨rfl, _, Eq.trans (World.drewN_drewN _ _ _) (congrArg (World.drewN _) (Nat.add_assoc _ _ _))⟩)))
        repeat (go_quiet (first | (go_at_call 23; (with_reducible refine (laws_sameInts.calls k1 _ _ (rd_L3 l0 x5_1) _ _ (rd_L3 l1 x5_1) true _ ?side1 ?side2 ?side3 ?side4 A7.out).mono ?_); (case side1 => repeat (first | exact HR274_0.out | (with_reducible refine yN ?_ _) | (with_reducible refine yL ?_ _) | (with_reducible refine yM ?_))); (case side2 => exact HC274_0.out); (case side3 => repeat (first | exact HR275_0.out | (with_reducible refine yN ?_ _) | (with_reducible refine yL ?_ _) | (with_reducible refine yM ?_))); (case side4 => exact HC275_0.out); rintro e w' ⟨rfl, ⟨nd, rfl⟩⟩; (try first | exact ⟨rfl, _, World.drewN_drewN _ _ _⟩ | exact ⟨rfl, _, Eq.trans (World.drewN_drewN _ _ _) (congrArg (World.drewN _) (Nat.add_assoc _ _ _))⟩))); try go_wp2_with (first | (go_at_call 23; (with_reducible refine (laws_sameInts.calls k1 _ _ (rd_L3 l0 x5_1) _ _ (rd_L3 l1 x5_1) true _ ?side1 ?side2 ?side3 ?side4 A7.out).mono ?_); (case side1 => repeat (first | exact HR274_0.out | (with_reducible refine yN ?_ _) | (with_reducible refine yL ?_ _) | (with_reducible refine yM ?_))); (case side2 => exact HC274_0.out); (case side3 => repeat (first | exact HR275_0.out | (with_reducible refine yN ?_ _) | (with_reducible refine yL ?_ _) | (with_reducible refine yM ?_))); (case side4 => exact HC275_0.out); rintro e w' ⟨rfl, ⟨nd, rfl⟩⟩; (try first | exact ⟨rfl, _, World.drewN_drewN _ _ _⟩ | exact ⟨rfl, _, Eq.trans (World.drewN_drewN _ _ _) (congrArg (World.drewN _) (Nat.add_assoc _ _ _))⟩))))
        go_roundg k1
        case measure => have := HK1.out; omega
        case rel => exact ⟨(wrap64 (x5_1 + 1)), (by first | rfl | (simp; done) | (simp [*]; done)), H', ⟨by have := HK1.out; omega⟩, by repeat (first | exact Drawn0.refl _ | apply Drawn0.step)⟩
       ·replace c8 := Bool.eq_false_iff.mpr c8
        subst c8
        have H1 : (some false) = some r := by rw [if_neg (show ¬ (false = true) by decide)] at H; exact H
        clear H
        have H := H1
        clear H1
        obtain rfl := Option.some.inj H
        have p274 : 0 ≤ (x5_1 : Int) := zI (by first | (with_reducible assumption) | assumption)
        have q274 : x5_1 < (l0.length : Int) := zI (by first | (with_reducible assumption) | assumption)
        obtain ⟨ad274, A274_0, c274_0, e274, hx274_0, hl274_0, hi274_0⟩ := at_L3 HR0.out x5_1 p274 q274
        cases e274
        have HR274_0 := zA hi274_0
        have HC274_0 := zA hl274_0
        clear hi274_0 hl274_0
        replace p274 := eq_true p274
        replace q274 := eq_true q274
        have p275 : 0 ≤ (x5_1 : Int) := zI (by first | (with_reducible assumption) | assumption)
        have q275 : x5_1 < (l1.length : Int) := zI (by first | (with_reducible assumption) | assumption)
        obtain ⟨ad275, A275_0, c275_0, e275, hx275_0, hl275_0, hi275_0⟩ := at_L3 HR1.out x5_1 p275 q275
        cases e275
        have HR275_0 := zA hi275_0
        have HC275_0 := zA hl275_0
        clear hi275_0 hl275_0
        replace p275 := eq_true p275
        replace q275 := eq_true q275
        go_wp2_with (first | (go_at_call 23; (with_reducible refine (laws_sameInts.calls k1 _ _ (rd_L3 l0 x5_1) _ _ (rd_L3 l1 x5_1) false _ ?side1 ?side2 ?side3 ?side4 A7.out).mono ?_); (case side1 => repeat (first | exact HR274_0.out | (with_reducible refine yN ?_ _) | (with_reducible refine yL ?_ _) | (with_reducible refine yM ?_))); (case side2 => exact HC274_0.out); (case side3 => repeat (first | exact HR275_0.out | (with_reducible refine yN ?_ _) | (with_reducible refine yL ?_ _) | (with_reducible refine yM ?_))); (case side4 => exact HC275_0.out); rintro e w' ⟨rfl, ⟨nd, rfl⟩⟩; (try first | exact ⟨rfl, _, World.drewN_drewN _ _ _⟩ | exact ⟨rfl, _, Eq.trans (World.drewN_drewN _ _ _) (congrArg (World.drewN _) (Nat.add_assoc _ _ _))⟩)))
        repeat (go_quiet (first | (go_at_call 23; (with_reducible refine (laws_sameInts.calls k1 _ _ (rd_L3 l0 x5_1) _ _ (rd_L3 l1 x5_1) false _ ?side1 ?side2 ?side3 ?side4 A7.out).mono ?_); (case side1 => repeat (first | exact HR274_0.out | (with_reducible refine yN ?_ _) | (with_reducible refine yL ?_ _) | (with_reducible refine yM ?_))); (case side2 => exact HC274_0.out); (case side3 => repeat (first | exact HR275_0.out | (with_reducible refine yN ?_ _) | (with_reducible refine yL ?_ _) | (with_reducible refine yM ?_))); (case side4 => exact HC275_0.out); rintro e w' ⟨rfl, ⟨nd, rfl⟩⟩; (try first | exact ⟨rfl, _, World.drewN_drewN _ _ _⟩ | exact ⟨rfl, _, Eq.trans (World.drewN_drewN _ _ _) (congrArg (World.drewN _) (Nat.add_assoc _ _ _))⟩))); try go_wp2_with (first | (go_at_call 23; (with_reducible refine (laws_sameInts.calls k1 _ _ (rd_L3 l0 x5_1) _ _ (rd_L3 l1 x5_1) false _ ?side1 ?side2 ?side3 ?side4 A7.out).mono ?_); (case side1 => repeat (first | exact HR274_0.out | (with_reducible refine yN ?_ _) | (with_reducible refine yL ?_ _) | (with_reducible refine yM ?_))); (case side2 => exact HC274_0.out); (case side3 => repeat (first | exact HR275_0.out | (with_reducible refine yN ?_ _) | (with_reducible refine yL ?_ _) | (with_reducible refine yM ?_))); (case side4 => exact HC275_0.out); rintro e w' ⟨rfl, ⟨nd, rfl⟩⟩; (try first | exact ⟨rfl, _, World.drewN_drewN _ _ _⟩ | exact ⟨rfl, _, Eq.trans (World.drewN_drewN _ _ _) (congrArg (World.drewN _) (Nat.add_assoc _ _ _))⟩))))
        go_ret
        exact ⟨by first | rfl | (simp; done) | (simp [*]; done), by repeat (first | exact Drawn0.refl _ | apply Drawn0.step)⟩
      ·rw [if_neg c6] at H
       exact absurd H (by simp)
     ·rw [if_neg c5] at H
      exact absurd H (by simp)
    ·rw [if_neg c4] at H
     have c4b0 : decide (x5_1 < (l0.length : Int)) = false := decide_eq_false c4
     clear c4
     obtain rfl := Option.some.inj H
     go_wp2
     repeat (go_quiet (fail); try go_wp2)
     go_ret
     exact ⟨by first | rfl | (simp; done) | (simp [*]; done), by repeat (first | exact Drawn0.refl _ | apply Drawn0.step)⟩
 ·rw [if_neg c3] at H
  have c3b0 : ((l0.length : Int) == (l1.length : Int)) = false := beq_eq_false_iff_ne.mpr c3
  have c3b1 : ((l0.length : Int) != (l1.length : Int)) = true := bne_iff_ne.mpr c3
  have c3b2 : (l0.length == l1.length) = false := by first | simpa using c3 | (simp at c3 ⊢; omega)
  obtain rfl := Option.some.inj H
  go_enter Try.func15, Try.ntmps15
  go_wp2
  repeat (go_quiet (fail); try go_wp2)
  go_ret
  exact ⟨by first | rfl | (simp; done) | (simp [*]; done), by repeat (first | exact Drawn0.refl _ | apply Drawn0.step)⟩
theorem laws_sameLists.l0_ev (a : List (List Int)) (ha : a.length ≤ 281474976710656) (hr : ∀ x ∈ a, x.length ≤ 281474976710656) : ∀ (d i : Nat), i + d = a.length → Ev (fun k => laws_sameLists.l0 k a a (i : Int)) true := by
 intro d
 induction d with
 | zero =>
  intro i hi
  exact Ev.step (fun _ => by rw [laws_sameLists.l0]) (Ev.ng (by omega) (Ev.now _))
 | succ d ih =>
  intro i hi
  have h : i < a.length := by omega
  refine Ev.step (fun _ => by rw [laws_sameLists.l0]) (Ev.ip (by omega) (Ev.ip (by omega) (Ev.ip (by omega) ?_)))
  rw [show rd_L3 a (i : Int) = a[i] by unfold rd_L3; rw [Int.toNat_natCast, List.getD_eq_getElem?_getD, List.getElem?_eq_getElem h]; rfl]
  refine Ev.bind (laws_sameInts.same _ (hr _ (List.getElem_mem h))) (Ev.ip rfl ?_)
  rw [wrap_succ i (by omega)]
  exact ih (i + 1) (by omega)
theorem laws_sameLists.same (a : List (List Int)) (ha : a.length ≤ 281474976710656) (hr : ∀ x ∈ a, x.length ≤ 281474976710656) : Ev (fun k => laws_sameLists.f k a a) true := Ev.ip rfl (laws_sameLists.l0_ev a ha hr a.length 0 (Nat.zero_add _))
end Go.Proofs.Ytilimpjcdeeaiaa.G


namespace Go.Proofs.Ytilimpjcdeeaiaa.G
open Go.RowKit Go.Proofs.YtilimpjcdeeaiaaW.PrintWords Go.Proofs.YtilimpjcdeeaiaaW.PrintLast Go.Proofs.YtilimpjcdeeaiaaW.PrintMore
attribute [local go_sem] max2_int min2_int max_two min_two max_three min_three max_four min_four   -- for this text's walks alone
def spec_l04Comps.l0 : Nat → List Int → Int → Int → Int → Int → Int → List (S102) → Option (Bool)
 | 0, _, _, _, _, _, _, _ => none
 | k + 1, x1, x5, x278000, x278001, x278002, x278003, x278004 => if x5 < (x1.length : Int) then (if 0 ≤ x5 then ((spec_l01Between.f (rd x1 x5) 0 (wrap64 ((x278004.length : Int) - 1))).bind fun t279 => (if t279 = true then (if x5 > 0 then (if 0 ≤ (wrap64 (x5 - 1)) then (if (wrap64 (x5 - 1)) < (x1.length : Int) then (if (rd x1 (wrap64 (x5 - 1))) ≥ (rd x1 x5) then (some false) else (spec_l04Comps.l0 k x1 (wrap64 (x5 + 1)) x278000 x278001 x278002 x278003 x278004)) else (none)) else (none)) else (spec_l04Comps.l0 k x1 (wrap64 (x5 + 1)) x278000 x278001 x278002 x278003 x278004)) else (some false))) else (none)) else (some (decide ((x1.length : Int) > 0)))
def spec_l04Comps.f (k : Nat) (a0_0 : Int) (a0_1 : Int) (a0_2 : Int) (a0_3 : Int) (l0_4 : List (S102)) (l1 : List Int) : Option (Bool) := spec_l04Comps.l0 k l1 0 a0_0 a0_1 a0_2 a0_3 l0_4
set_option maxHeartbeats 8000000 in
set_option maxRecDepth 100000 in
theorem spec_l04Comps.calls (k : Nat) (a0_0 : Int) (a0_1 : Int) (a0_2 : Int) (a0_3 : Int) (A0_4 : Option Addr) (c0_4 : Nat) (l0_4 : List (S102)) (A1 : Option Addr) (c1 : Nat) (l1 : List Int) (r : Bool) (w : World) (hr0_4 : Kd.C k102 w A0_4 l0_4.length l0_4) (hc0_4 : l0_4.length ≤ c0_4) (hr1 : Kd.C (Kd.int .i64) w A1 l1.length l1) (hc1 : l1.length ≤ c1) (h : spec_l04Comps.f k a0_0 a0_1 a0_2 a0_3 l0_4 l1 = some r) :
  Calls Try.prog 147 #[.agg #[.int .i64 a0_0, .int .i64 a0_1, .int .i64 a0_2, .int .i64 a0_3, .slice A0_4 l0_4.length c0_4], .slice A1 l1.length c1] w fun e w' => e = .returned (.bool r) ∧ Below w.heap.size w w' := by
 have hu26 := Try.underlying26
 have HR0_4 := zA hr0_4
 have HC0_4 := zA hc0_4
 clear hr0_4 hc0_4
 have HR1 := zA hr1
 have HC1 := zA hc1
 clear hr1 hc1
 have HB := zA (Below.refl w.heap.size w)
 have H : (spec_l04Comps.l0 k l1 0 a0_0 a0_1 a0_2 a0_3 l0_4) = some r := h
 clear h
 have H' := zA H
 clear H
 go_enter Try.func147, Try.ntmps147
 go_wp2_with (first | ((with_reducible refine gate_dst (N := 2) rfl ?_); refine box_event ?hg (N := 2) ?hd (cs := #[.int .i64 a0_0, .int .i64 a0_1, .int .i64 a0_2, .int .i64 a0_3, .slice A0_4 l0_4.length c0_4]) (t := 26) ?hr ?_; (case hd => rfl); (case hg => rfl); (case hr => first | (go_simp; done) | (go_simp; rfl)); intro gb277 hg w3 hbox hb; have n0_ := zA (below_step (by repeat (first | (with_reducible first | exact HB.out | apply zC | apply zB | apply zF) | exact HB.out)) hb); have n1_ := zA (hbox); have n2_ := zA ((by rw [hg]; exact (zL (by repeat (first | (with_reducible first | exact HB.out | apply zC | apply zB | apply zF) | exact HB.out))) : w.heap.size ≤ gb277)); have n3_ := zA ((by rw [hg]; exact (zL (by repeat (first | (with_reducible first | exact HB.out | apply zC | apply zB | apply zF) | exact HB.out))) : w.heap.size ≤ gb277)); clear HB; have HB := n0_; have BK277 := n1_; have GW277 := n2_; have GE277 := n3_; clear n0_ n1_ n2_ n3_; clear hb hbox hg))
 repeat (go_quiet (first | ((with_reducible refine gate_dst (N := 2) rfl ?_); refine box_event ?hg (N := 2) ?hd (cs := #[.int .i64 a0_0, .int .i64 a0_1, .int .i64 a0_2, .int .i64 a0_3, .slice A0_4 l0_4.length c0_4]) (t := 26) ?hr ?_; (case hd => rfl); (case hg => rfl); (case hr => first | (go_simp; done) | (go_simp; rfl)); intro gb277 hg w3 hbox hb; have n0_ := zA (below_step (by repeat (first | (with_reducible first | exact HB.out | apply zC | apply zB | apply zF) | exact HB.out)) hb); have n1_ := zA (hbox); have n2_ := zA ((by rw [hg]; exact (zL (by repeat (first | (with_reducible first | exact HB.out | apply zC | apply zB | apply zF) | exact HB.out))) : w.heap.size ≤ gb277)); have n3_ := zA ((by rw [hg]; exact (zL (by repeat (first | (with_reducible first | exact HB.out | apply zC | apply zB | apply zF) | exact HB.out))) : w.heap.size ≤ gb277)); clear HB; have HB := n0_; have BK277 := n1_; have GW277 := n2_; have GE277 := n3_; clear n0_ n1_ n2_ n3_; clear hb hbox hg)); try go_wp2_with (first | ((with_reducible refine gate_dst (N := 2) rfl ?_); refine box_event ?hg (N := 2) ?hd (cs := #[.int .i64 a0_0, .int .i64 a0_1, .int .i64 a0_2, .int .i64 a0_3, .slice A0_4 l0_4.length c0_4]) (t := 26) ?hr ?_; (case hd => rfl); (case hg => rfl); (case hr => first | (go_simp; done) | (go_simp; rfl)); intro gb277 hg w3 hbox hb; have n0_ := zA (below_step (by repeat (first | (with_reducible first | exact HB.out | apply zC | apply zB | apply zF) | exact HB.out)) hb); have n1_ := zA (hbox); have n2_ := zA ((by rw [hg]; exact (zL (by repeat (first | (with_reducible first | exact HB.out | apply zC | apply zB | apply zF) | exact HB.out))) : w.heap.size ≤ gb277)); have n3_ := zA ((by rw [hg]; exact (zL (by repeat (first | (with_reducible first | exact HB.out | apply zC | apply zB | apply zF) | exact HB.out))) : w.heap.size ≤ gb277)); clear HB; have HB := n0_; have BK277 := n1_; have GW277 := n2_; have GE277 := n3_; clear n0_ n1_ n2_ n3_; clear hb hbox hg)))
 go_loopg [5] k (fun kq v5 w' => ∃ (x5_1 : Int), v5 = .int .i64 x5_1 ∧ Aside0 (spec_l04Comps.l0 kq l1 x5_1 a0_0 a0_1 a0_2 a0_3 l0_4 = some r) ∧ Aside0 (kq ≤ k) ∧ Aside0 (w'.heap[gb277]? = some (.cells #[.int .i64 a0_0, .int .i64 a0_1, .int .i64 a0_2, .int .i64 a0_3, (.slice A0_4 l0_4.length c0_4)] 26 (0, 0))) ∧ Aside0 (Below w.heap.size w w'))
 case atStart => exact ⟨(0), (by first | rfl | (simp; done) | (simp [*]; done)), H', ⟨Nat.le_refl _⟩, ⟨by (with_reducible repeat (first | refine zG ?_ _ | refine zH ?_ | refine zD ?_ _)); exact BK277.out⟩, ⟨by repeat (first | (with_reducible first | exact HB.out | apply zC | apply zB | apply zF | refine zE ?_ GE277.out) | exact HB.out)⟩⟩
 case round =>
  clear H'
  try clear c1
  try clear p2
  obtain ⟨x5_1, rfl, HA, HK1, BK277, HB⟩ := hrel
  cases gk with
  | zero => exact absurd HA.out (by simp [spec_l04Comps.l0])
  | succ k1 =>
   have H := HA.out
   clear HA
   simp only [spec_l04Comps.l0] at H
   by_cases c4 : x5_1 < (l1.length : Int)
   ·rw [if_pos c4] at H
    have c4b0 : decide (x5_1 < (l1.length : Int)) = true := zT c4
    clear c4
    by_cases c5 : 0 ≤ x5_1
    ·rw [if_pos c5] at H
     have c5b0 : decide (0 ≤ x5_1) = true := zT c5
     clear c5
     replace H := Option.bind_eq_some_iff.mp H
     obtain ⟨t279, A60, H⟩ := H
     replace H : (if t279 = true then (if x5_1 > 0 then (if 0 ≤ (wrap64 (x5_1 - 1)) then (if (wrap64 (x5_1 - 1)) < (l1.length : Int) then (if (rd l1 (wrap64 (x5_1 - 1))) ≥ (rd l1 x5_1) then (some false) else (spec_l04Comps.l0 k1 l1 (wrap64 (x5_1 + 1)) a0_0 a0_1 a0_2 a0_3 l0_4)) else (none)) else (none)) else (spec_l04Comps.l0 k1 l1 (wrap64 (x5_1 + 1)) a0_0 a0_1 a0_2 a0_3 l0_4)) else (some false)) = some r := H
     have A6 := zA A60
     clear A60
     by_cases c7 : t279 = true
     ·subst c7
      have H1 : (if x5_1 > 0 then (if 0 ≤ (wrap64 (x5_1 - 1)) then (if (wrap64 (x5_1 - 1)) < (l1.length : Int) then (if (rd l1 (wrap64 (x5_1 - 1))) ≥ (rd l1 x5_1) then (some false) else (spec_l04Comps.l0 k1 l1 (wrap64 (x5_1 + 1)) a0_0 a0_1 a0_2 a0_3 l0_4)) else (none)) else (none)) else (spec_l04Comps.l0 k1 l1 (wrap64 (x5_1 + 1)) a0_0 a0_1 a0_2 a0_3 l0_4)) = some r := by rw [if_pos rfl] at H; exact H
      clear H
      have H := H1
      clear H1
      by_cases c8 : x5_1 > 0
      ·rw [if_pos c8] at H
       have c8b0 : decide (0 < x5_1) = true := zT c8
       clear c8
       obtain ⟨ji9, hji9⟩ : ∃ j_ : Int, (wrap64 (x5_1 - 1)) = j_ := ⟨_, rfl⟩
       replace H : (if 0 ≤ (ji9) then (if (ji9) < (l1.length : Int) then (if (rd l1 (ji9)) ≥ (rd l1 x5_1) then (some false) else (spec_l04Comps.l0 k1 l1 (wrap64 (x5_1 + 1)) a0_0 a0_1 a0_2 a0_3 l0_4)) else (none)) else (none)) = some r := by first | (rw [hji9] at H; exact H) | (simp only [hji9] at H ⊢; exact H)
       (try rw [hji9] at A6)
       have hji9w : (IntKind.i64.wrap (x5_1 - 1)) = ji9 := (i64_w _).trans hji9
       by_cases c10 : 0 ≤ (ji9)
       ·rw [if_pos c10] at H
        have c10b0 : decide (0 ≤ (ji9)) = true := zT c10
        clear c10
        by_cases c11 : (ji9) < (l1.length : Int)
        ·rw [if_pos c11] at H
         have c11b0 : decide ((ji9) < (l1.length : Int)) = true := zT c11
         clear c11
         by_cases c12 : (rd l1 (ji9)) ≥ (rd l1 x5_1)
         ·rw [if_pos c12] at H
          have c12b0 : decide ((rd l1 x5_1) ≤ (rd l1 (ji9))) = true := zT c12
          clear c12
          obtain rfl := Option.some.inj H
          have p278 : 0 ≤ (x5_1 : Int) := zI (by first | (with_reducible assumption) | assumption)
          have q278 : x5_1 < (l1.length : Int) := zI (by first | (with_reducible assumption) | assumption)
          obtain ⟨ad278, e278, hx278_0⟩ := Kd.at_int HR1.out x5_1 p278 q278
          cases e278
          replace hx278_0 := (HB.out.cell (World.block_lt_of_cell? w _ hx278_0)).trans hx278_0
          replace p278 := eq_true p278
          replace q278 := eq_true q278
          have hcz13_0 : wr.cell? ⟨gb277, 0, none⟩ = some (.int .i64 a0_0) := (zK BK277.out 0).trans rfl
          have hcz13_1 : wr.cell? ⟨gb277, 1, none⟩ = some (.int .i64 a0_1) := (zK BK277.out 1).trans rfl
          have hcz13_2 : wr.cell? ⟨gb277, 2, none⟩ = some (.int .i64 a0_2) := (zK BK277.out 2).trans rfl
          have hcz13_3 : wr.cell? ⟨gb277, 3, none⟩ = some (.int .i64 a0_3) := (zK BK277.out 3).trans rfl
          have hcz13_4 : wr.cell? ⟨gb277, 4, none⟩ = some (.slice A0_4 l0_4.length c0_4) := (zK BK277.out 4).trans rfl
          have hfz13_0 := zJ BK277.out 0
          have hfz13_1 := zJ BK277.out 1
          have hfz13_2 := zJ BK277.out 2
          have hfz13_3 := zJ BK277.out 3
          have hfz13_4 := zJ BK277.out 4
          have p280 : 0 ≤ ((ji9) : Int) := zI (by first | (with_reducible assumption) | assumption); have q280 : (ji9) < (l1.length : Int) := zI (by first | (with_reducible assumption) | assumption); obtain ⟨ad280, e280, hx280_0⟩ := Kd.at_int HR1.out (ji9) p280 q280; obtain rfl : ad278 = ad280 := (by injection e280); replace hx280_0 := (HB.out.cell (World.block_lt_of_cell? w _ hx280_0)).trans hx280_0; replace p280 := eq_true p280; replace q280 := eq_true q280; have p281 : 0 ≤ (x5_1 : Int) := zI (by first | (with_reducible assumption) | assumption); have q281 : x5_1 < (l1.length : Int) := zI (by first | (with_reducible assumption) | assumption); obtain ⟨ad281, e281, hx281_0⟩ := Kd.at_int HR1.out x5_1 p281 q281; obtain rfl : ad278 = ad281 := (by injection e281); replace hx281_0 := (HB.out.cell (World.block_lt_of_cell? w _ hx281_0)).trans hx281_0; replace p281 := eq_true p281; replace q281 := eq_true q281
          go_wp2_with (first | (go_at_call 58; (with_reducible refine (spec_l01Between.calls (rd l1 x5_1) 0 (wrap64 ((l0_4.length : Int) - 1)) true _ A6.out).mono ?_); rintro e w' ⟨rfl, ⟨nd, rfl⟩⟩; (try first | exact ⟨rfl, _, World.drewN_drewN _ _ _⟩ | exact ⟨rfl, _, Eq.trans (World.drewN_drewN _ _ _) (congrArg (World.drewN _) (Nat.add_assoc _ _ _))⟩)))
          repeat (go_quiet (first | (go_at_call 58; (with_reducible refine (spec_l01Between.calls (rd l1 x5_1) 0 (wrap64 ((l0_4.length : Int) - 1)) true _ A6.out).mono ?_); rintro e w' ⟨rfl, ⟨nd, rfl⟩⟩; (try first | exact ⟨rfl, _, World.drewN_drewN _ _ _⟩ | exact ⟨rfl, _, Eq.trans (World.drewN_drewN _ _ _) (congrArg (World.drewN _) (Nat.add_assoc _ _ _))⟩))); try go_wp2_with (first | (go_at_call 58; (with_reducible refine (spec_l01Between.calls (rd l1 x5_1) 0 (wrap64 ((l0_4.length : Int) - 1)) true _ A6.out).mono ?_); rintro e w' ⟨rfl, ⟨nd, rfl⟩⟩; (try first | exact ⟨rfl, _, World.drewN_drewN _ _ _⟩ | exact ⟨rfl, _, Eq.trans (World.drewN_drewN _ _ _) (congrArg (World.drewN _) (Nat.add_assoc _ _ _))⟩))))
          go_ret
          exact ⟨by first | rfl | (simp [errW_none, errW_some] <;> rfl) | (simp only [← hji9]; first | rfl | (simp [errW_none, errW_some] <;> rfl)) | (simp [*, errW_none, errW_some] <;> rfl), by repeat (first | (with_reducible first | exact HB.out | apply zC | apply zB | apply zF | refine zE ?_ GE277.out) | exact HB.out)⟩
         ·rw [if_neg c12] at H
          have c12b0 : decide ((rd l1 x5_1) ≤ (rd l1 (ji9))) = false := decide_eq_false c12
          clear c12
          have H' := zA H
          clear H
          have p278 : 0 ≤ (x5_1 : Int) := zI (by first | (with_reducible assumption) | assumption)
          have q278 : x5_1 < (l1.length : Int) := zI (by first | (with_reducible assumption) | assumption)
          obtain ⟨ad278, e278, hx278_0⟩ := Kd.at_int HR1.out x5_1 p278 q278
          cases e278
          replace hx278_0 := (HB.out.cell (World.block_lt_of_cell? w _ hx278_0)).trans hx278_0
          replace p278 := eq_true p278
          replace q278 := eq_true q278
          have hcz14_0 : wr.cell? ⟨gb277, 0, none⟩ = some (.int .i64 a0_0) := (zK BK277.out 0).trans rfl
          have hcz14_1 : wr.cell? ⟨gb277, 1, none⟩ = some (.int .i64 a0_1) := (zK BK277.out 1).trans rfl
          have hcz14_2 : wr.cell? ⟨gb277, 2, none⟩ = some (.int .i64 a0_2) := (zK BK277.out 2).trans rfl
          have hcz14_3 : wr.cell? ⟨gb277, 3, none⟩ = some (.int .i64 a0_3) := (zK BK277.out 3).trans rfl
          have hcz14_4 : wr.cell? ⟨gb277, 4, none⟩ = some (.slice A0_4 l0_4.length c0_4) := (zK BK277.out 4).trans rfl
          have hfz14_0 := zJ BK277.out 0
          have hfz14_1 := zJ BK277.out 1
          have hfz14_2 := zJ BK277.out 2
          have hfz14_3 := zJ BK277.out 3
          have hfz14_4 := zJ BK277.out 4
          have p280 : 0 ≤ ((ji9) : Int) := zI (by first | (with_reducible assumption) | assumption); have q280 : (ji9) < (l1.length : Int) := zI (by first | (with_reducible assumption) | assumption); obtain ⟨ad280, e280, hx280_0⟩ := Kd.at_int HR1.out (ji9) p280 q280; obtain rfl : ad278 = ad280 := (by injection e280); replace hx280_0 := (HB.out.cell (World.block_lt_of_cell? w _ hx280_0)).trans hx280_0; replace p280 := eq_true p280; replace q280 := eq_true q280; have p281 : 0 ≤ (x5_1 : Int) := zI (by first | (with_reducible assumption) | assumption); have q281 : x5_1 < (l1.length : Int) := zI (by first | (with_reducible assumption) | assumption); obtain ⟨ad281, e281, hx281_0⟩ := Kd.at_int HR1.out x5_1 p281 q281; obtain rfl : ad278 = ad281 := (by injection e281); replace hx281_0 := (HB.out.cell (World.block_lt_of_cell? w _ hx281_0)).trans hx281_0; replace p281 := eq_true p281; replace q281 := eq_true q281
          go_wp2_with (first | (go_at_call 58; (with_reducible refine (spec_l01Between.calls (rd l1 x5_1) 0 (wrap64 ((l0_4.length : Int) - 1)) true _ A6.out).mono ?_); rintro e w' ⟨rfl, ⟨nd, rfl⟩⟩; (try first | exact ⟨rfl, _, World.drewN_drewN _ _ _⟩ | exact ⟨rfl, _, Eq.trans (World.drewN_drewN _ _ _) (congrArg (World.drewN _) (Nat.add_assoc _ _ _))⟩)))
          repeat (go_quiet (first | (go_at_call 58; (with_reducible refine (spec_l01Between.calls (rd l1 x5_1) 0 (wrap64 ((l0_4.length : Int) - 1)) true _ A6.out).mono ?_); rintro e w' ⟨rfl, ⟨nd, rfl⟩⟩; (try first | exact ⟨rfl, _, World.drewN_drewN _ _ _⟩ | exact ⟨rfl, _, Eq.trans (World.drewN_drewN _ _ _) (congrArg (World.drewN _) (Nat.add_assoc _ _ _))⟩))); try go_wp2_with (first | (go_at_call 58; (with_reducible refine (spec_l01Between.calls (rd l1 x5_1) 0 (wrap64 ((l0_4.length : Int) - 1)) true _ A6.out).mono ?_); rintro e w' ⟨rfl, ⟨nd, rfl⟩⟩; (try first | exact ⟨rfl, _, World.drewN_drewN _ _ _⟩ | exact ⟨rfl, _, Eq.trans (World.drewN_drewN _ _ _) (congrArg (World.drewN _) (Nat.add_assoc _ _ _))⟩))))
          go_roundg k1
          case measure => have := HK1.out; omega
          case rel => exact ⟨(wrap64 (x5_1 + 1)), (by first | rfl | (simp; done) | (simp [*]; done)), H', ⟨by have := HK1.out; omega⟩, ⟨by (with_reducible repeat (first | refine zG ?_ _ | refine zH ?_ | refine zD ?_ _)); exact BK277.out⟩, ⟨by repeat (first | (with_reducible first | exact HB.out | apply zC | apply zB | apply zF | refine zE ?_ GE277.out) | exact HB.out)⟩⟩
        ·rw [if_neg c11] at H
         exact absurd H (by simp)
       ·rw [if_neg c10] at H
        exact absurd H (by simp)
      ·rw [if_neg c8] at H
       have c8b0 : decide (0 < x5_1) = false := decide_eq_false c8
       clear c8
       have H' := zA H
       clear H
       have p278 : 0 ≤ (x5_1 : Int) := zI (by first | (with_reducible assumption) | assumption)
       have q278 : x5_1 < (l1.length : Int) := zI (by first | (with_reducible assumption) | assumption)
       obtain ⟨ad278, e278, hx278_0⟩ := Kd.at_int HR1.out x5_1 p278 q278
       cases e278
       replace hx278_0 := (HB.out.cell (World.block_lt_of_cell? w _ hx278_0)).trans hx278_0
       replace p278 := eq_true p278
       replace q278 := eq_true q278
       have hcz15_0 : wr.cell? ⟨gb277, 0, none⟩ = some (.int .i64 a0_0) := (zK BK277.out 0).trans rfl
       have hcz15_1 : wr.cell? ⟨gb277, 1, none⟩ = some (.int .i64 a0_1) := (zK BK277.out 1).trans rfl
       have hcz15_2 : wr.cell? ⟨gb277, 2, none⟩ = some (.int .i64 a0_2) := (zK BK277.out 2).trans rfl
       have hcz15_3 : wr.cell? ⟨gb277, 3, none⟩ = some (.int .i64 a0_3) := (zK BK277.out 3).trans rfl
       have hcz15_4 : wr.cell? ⟨gb277, 4, none⟩ = some (.slice A0_4 l0_4.length c0_4) := (zK BK277.out 4).trans rfl
       have hfz15_0 := zJ BK277.out 0
       have hfz15_1 := zJ BK277.out 1
       have hfz15_2 := zJ BK277.out 2
       have hfz15_3 := zJ BK277.out 3
       have hfz15_4 := zJ BK277.out 4
       go_wp2_with (first | (go_at_call 58; (with_reducible refine (spec_l01Between.calls (rd l1 x5_1) 0 (wrap64 ((l0_4.length : Int) - 1)) true _ A6.out).mono ?_); rintro e w' ⟨rfl, ⟨nd, rfl⟩⟩; (try first | exact ⟨rfl, _, World.drewN_drewN _ _ _⟩ | exact ⟨rfl, _, Eq.trans (World.drewN_drewN _ _ _) (congrArg (World.drewN _) (Nat.add_assoc _ _ _))⟩)))
       repeat (go_quiet (first | (go_at_call 58; (with_reducible refine (spec_l01Between.calls (rd l1 x5_1) 0 (wrap64 ((l0_4.length : Int) - 1)) true _ A6.out).mono ?_); rintro e w' ⟨rfl, ⟨nd, rfl⟩⟩; (try first | exact ⟨rfl, _, World.drewN_drewN _ _ _⟩ | exact ⟨rfl, _, Eq.trans (World.drewN_drewN _ _ _) (congrArg (World.drewN _) (Nat.add_assoc _ _ _))⟩))); try go_wp2_with (first | (go_at_call 58; (with_reducible refine (spec_l01Between.calls (rd l1 x5_1) 0 (wrap64 ((l0_4.length : Int) - 1)) true _ A6.out).mono ?_); rintro e w' ⟨rfl, ⟨nd, rfl⟩⟩; (try first | exact ⟨rfl, _, World.drewN_drewN _ _ _⟩ | exact ⟨rfl, _, Eq.trans (World.drewN_drewN _ _ _) (congrArg (World.drewN _) (Nat.add_assoc _ _ _))⟩))))
       go_roundg k1
       case measure => have := HK1.out; omega
       case rel => exact ⟨(wrap64 (x5_1 + 1)), (by first | rfl | (simp; done) | (simp [*]; done)), H', ⟨by have := HK1.out; omega⟩, ⟨by (with_reducible repeat (first | refine zG ?_ _ | refine zH ?_ | refine zD ?_ _)); exact BK277.out⟩, ⟨by repeat (first | (with_reducible first | exact HB.out | apply zC | apply zB | apply zF | refine zE ?_ GE277.out) | exact HB.out)⟩⟩
     ·replace c7 := Bool.eq_false_iff.mpr c7
      subst c7
      have H1 : (some false) = some r := by rw [if_neg (show ¬ (false = true) by decide)] at H; exact H
      clear H
      have H := H1
      clear H1
      obtain rfl := Option.some.inj H
      have p278 : 0 ≤ (x5_1 : Int) := zI (by first | (with_reducible assumption) | assumption)
      have q278 : x5_1 < (l1.length : Int) := zI (by first | (with_reducible assumption) | assumption)
      obtain ⟨ad278, e278, hx278_0⟩ := Kd.at_int HR1.out x5_1 p278 q278
      cases e278
      replace hx278_0 := (HB.out.cell (World.block_lt_of_cell? w _ hx278_0)).trans hx278_0
      replace p278 := eq_true p278
      replace q278 := eq_true q278
      have hcz16_0 : wr.cell? ⟨gb277, 0, none⟩ = some (.int .i64 a0_0) := (zK BK277.out 0).trans rfl
      have hcz16_1 : wr.cell? ⟨gb277, 1, none⟩ = some (.int .i64 a0_1) := (zK BK277.out 1).trans rfl
      have hcz16_2 : wr.cell? ⟨gb277, 2, none⟩ = some (.int .i64 a0_2) := (zK BK277.out 2).trans rfl
      have hcz16_3 : wr.cell? ⟨gb277, 3, none⟩ = some (.int .i64 a0_3) := (zK BK277.out 3).trans rfl
      have hcz16_4 : wr.cell? ⟨gb277, 4, none⟩ = some (.slice A0_4 l0_4.length c0_4) := (zK BK277.out 4).trans rfl
      have hfz16_0 := zJ BK277.out 0
      have hfz16_1 := zJ BK277.out 1
      have hfz16_2 := zJ BK277.out 2
      have hfz16_3 := zJ BK277.out 3
      have hfz16_4 := zJ BK277.out 4
      go_wp2_with (first | (go_at_call 58; (with_reducible refine (spec_l01Between.calls (rd l1 x5_1) 0 (wrap64 ((l0_4.length : Int) - 1)) false _ A6.out).mono ?_); rintro e w' ⟨rfl, ⟨nd, rfl⟩⟩; (try first | exact ⟨rfl, _, World.drewN_drewN _ _ _⟩ | exact ⟨rfl, _, Eq.trans (World.drewN_drewN _ _ _) (congrArg (World.drewN _) (Nat.add_assoc _ _ _))⟩)))
      repeat (go_quiet (first | (go_at_call 58; (with_reducible refine (spec_l01Between.calls (rd l1 x5_1) 0 (wrap64 ((l0_4.length : Int) - 1)) false _ A6.out).mono ?_); rintro e w' ⟨rfl, ⟨nd, rfl⟩⟩; (try first | exact ⟨rfl, _, World.drewN_drewN _ _ _⟩ | exact ⟨rfl, _, Eq.trans (World.drewN_drewN _ _ _) (congrArg (World.drewN _) (Nat.add_assoc _ _ _))⟩))); try go_wp2_with (first | (go_at_call 58; (with_reducible refine (spec_l01Between.calls (rd l1 x5_1) 0 (wrap64 ((l0_4.length : Int) - 1)) false _ A6.out).mono ?_); rintro e w' ⟨rfl, ⟨nd, rfl⟩⟩; (try first | exact ⟨rfl, _, World.drewN_drewN _ _ _⟩ | exact ⟨rfl, _, Eq.trans (World.drewN_drewN _ _ _) (congrArg (World.drewN _) (Nat.add_assoc _ _ _))⟩))))
      go_ret
      exact ⟨by first | rfl | (simp [errW_none, errW_some] <;> rfl) | (simp [*, errW_none, errW_some] <;> rfl), by repeat (first | (with_reducible first | exact HB.out | apply zC | apply zB | apply zF | refine zE ?_ GE277.out) | exact HB.out)⟩
    ·rw [if_neg c5] at H
     exact absurd H (by simp)
   ·rw [if_neg c4] at H
    have c4b0 : decide (x5_1 < (l1.length : Int)) = false := decide_eq_false c4
    clear c4
    obtain rfl := Option.some.inj H
    go_wp2
    repeat (go_quiet (fail); try go_wp2)
    go_ret
    exact ⟨by first | rfl | (simp [errW_none, errW_some] <;> rfl) | (simp [*, errW_none, errW_some] <;> rfl), by repeat (first | (with_reducible first | exact HB.out | apply zC | apply zB | apply zF | refine zE ?_ GE277.out) | exact HB.out)⟩
end Go.Proofs.Ytilimpjcdeeaiaa.G


namespace Go.Proofs.Ytilimpjcdeeaiaa.G
open Go.RowKit Go.Proofs.YtilimpjcdeeaiaaW.PrintWords Go.Proofs.YtilimpjcdeeaiaaW.PrintLast Go.Proofs.YtilimpjcdeeaiaaW.PrintMore
attribute [local go_sem] max2_int min2_int max_two min_two max_three min_three max_four min_four   -- for this text's walks alone
def spec_l12Bits.f (l0_0 : List Int) (a0_1 : Int) (a0_2 : Int) (a0_3 : Int) (a0_4 : Int) : Option (Bool) := (spec_l01Between.f a0_1 0 a0_2).bind fun t283 => (if t283 = true then (if a0_2 ≤ 63 then ((spec_l01Between.f a0_4 0 13).bind fun t284 => (if t284 = true then (if a0_3 = 0 then (some true) else (some (a0_3 == (wrap64 (a0_4 + 1))))) else (some false))) else (some false)) else (some false))
set_option maxHeartbeats 8000000 in
set_option maxRecDepth 100000 in
theorem spec_l12Bits.calls (A0_0 : Option Addr) (c0_0 : Nat) (l0_0 : List Int) (a0_1 : Int) (a0_2 : Int) (a0_3 : Int) (a0_4 : Int) (r : Bool) (w : World) (hr0_0 : Kd.C (Kd.int .i64) w A0_0 l0_0.length l0_0) (hc0_0 : l0_0.length ≤ c0_0) (h : spec_l12Bits.f l0_0 a0_1 a0_2 a0_3 a0_4 = some r) :
  Calls Try.prog 148 #[.agg #[.slice A0_0 l0_0.length c0_0, .int .i64 a0_1, .int .i64 a0_2, .int .i64 a0_3, .int .i64 a0_4]] w fun e w' => e = .returned (.bool r) ∧ Below w.heap.size w w' := by
 have hu38 := Try.underlying38
 have HR0_0 := zA hr0_0
 have HC0_0 := zA hc0_0
 clear hr0_0 hc0_0
 have HB := zA (Below.refl w.heap.size w)
 have H : ((spec_l01Between.f a0_1 0 a0_2).bind fun t283 => (if t283 = true then (if a0_2 ≤ 63 then ((spec_l01Between.f a0_4 0 13).bind fun t284 => (if t284 = true then (if a0_3 = 0 then (some true) else (some (a0_3 == (wrap64 (a0_4 + 1))))) else (some false))) else (some false)) else (some false))) = some r := h
 clear h
 replace H := Option.bind_eq_some_iff.mp H
 obtain ⟨t283, A20, H⟩ := H
 replace H : (if t283 = true then (if a0_2 ≤ 63 then ((spec_l01Between.f a0_4 0 13).bind fun t284 => (if t284 = true then (if a0_3 = 0 then (some true) else (some (a0_3 == (wrap64 (a0_4 + 1))))) else (some false))) else (some false)) else (some false)) = some r := H
 have A2 := zA A20
 clear A20
 by_cases c3 : t283 = true
 ·subst c3
  have H1 : (if a0_2 ≤ 63 then ((spec_l01Between.f a0_4 0 13).bind fun t284 => (if t284 = true then (if a0_3 = 0 then (some true) else (some (a0_3 == (wrap64 (a0_4 + 1))))) else (some false))) else (some false)) = some r := by rw [if_pos rfl] at H; exact H
  clear H
  have H := H1
  clear H1
  by_cases c4 : a0_2 ≤ 63
  ·rw [if_pos c4] at H
   have c4b0 : decide (a0_2 ≤ 63) = true := zT c4
   clear c4
   replace H := Option.bind_eq_some_iff.mp H
   obtain ⟨t284, A50, H⟩ := H
   replace H : (if t284 = true then (if a0_3 = 0 then (some true) else (some (a0_3 == (wrap64 (a0_4 + 1))))) else (some false)) = some r := H
   have A5 := zA A50
   clear A50
   by_cases c6 : t284 = true
   ·subst c6
    have H1 : (if a0_3 = 0 then (some true) else (some (a0_3 == (wrap64 (a0_4 + 1))))) = some r := by rw [if_pos rfl] at H; exact H
    clear H
    have H := H1
    clear H1
    by_cases c7 : a0_3 = 0
    ·rw [if_pos c7] at H
     have c7b0 : (a0_3 == 0) = true := beq_iff_eq.mpr c7
     have c7b1 : (a0_3 != 0) = false := bne_eq_false_iff_eq.mpr c7
     clear c7
     obtain rfl := Option.some.inj H
     go_enter Try.func148, Try.ntmps148
     go_wp2_with (first | ((with_reducible refine gate_dst (N := 1) rfl ?_); refine box_event ?hg (N := 1) ?hd (cs := #[.slice A0_0 l0_0.length c0_0, .int .i64 a0_1, .int .i64 a0_2, .int .i64 a0_3, .int .i64 a0_4]) (t := 38) ?hr ?_; (case hd => rfl); (case hg => rfl); (case hr => first | (go_simp; done) | (go_simp; rfl)); intro gb282 hg w8 hbox hb; have n0_ := zA (below_step (by repeat (first | (with_reducible first | exact HB.out | apply zC | apply zB | apply zF) | exact HB.out)) hb); have n1_ := zA (hbox); have n2_ := zA ((by rw [hg]; exact (zL (by repeat (first | (with_reducible first | exact HB.out | apply zC | apply zB | apply zF) | exact HB.out))) : w.heap.size ≤ gb282)); have n3_ := zA ((by rw [hg]; exact (zL (by repeat (first | (with_reducible first | exact HB.out | apply zC | apply zB | apply zF) | exact HB.out))) : w.heap.size ≤ gb282)); clear HB; have HB := n0_; have BK282 := n1_; have GW282 := n2_; have GE282 := n3_; clear n0_ n1_ n2_ n3_; clear hb hbox hg; have hcz9_0 : w8.cell? ⟨gb282, 0, none⟩ = some (.slice A0_0 l0_0.length c0_0) := (zK BK282.out 0).trans rfl; have hcz9_1 : w8.cell? ⟨gb282, 1, none⟩ = some (.int .i64 a0_1) := (zK BK282.out 1).trans rfl; have hcz9_2 : w8.cell? ⟨gb282, 2, none⟩ = some (.int .i64 a0_2) := (zK BK282.out 2).trans rfl; have hcz9_3 : w8.cell? ⟨gb282, 3, none⟩ = some (.int .i64 a0_3) := (zK BK282.out 3).trans rfl; have hcz9_4 : w8.cell? ⟨gb282, 4, none⟩ = some (.int .i64 a0_4) := (zK BK282.out 4).trans rfl; have hfz9_0 := zJ BK282.out 0; have hfz9_1 := zJ BK282.out 1; have hfz9_2 := zJ BK282.out 2; have hfz9_3 := zJ BK282.out 3; have hfz9_4 := zJ BK282.out 4) | ((with_reducible refine gate_callee (f := 58) rfl ?_); refine goesL_ (some 7) rfl rfl Try.func58 (by kernel_rfl) rfl #[.int .i64 a0_1, .int .i64 0, .int .i64 a0_2] rfl (by (try simp only [zU, zV, zW]); first | done | rfl | (simp only [zR, zQ]; rfl)) ?_; (with_reducible refine (spec_l01Between.calls a0_1 0 a0_2 true _ A2.out).mono ?_); rintro e w' ⟨rfl, ⟨nd, rfl⟩⟩; refine ⟨_, rfl, ?_⟩) | (go_at_call 58; (with_reducible refine (spec_l01Between.calls a0_4 0 13 true _ A5.out).mono ?_); rintro e w' ⟨rfl, ⟨nd, rfl⟩⟩))
     go_ret
     exact ⟨by first | rfl | (simp [errW_none, errW_some] <;> rfl) | (simp [*, errW_none, errW_some] <;> rfl), by repeat (first | (with_reducible first | exact HB.out | apply zC | apply zB | apply zF | refine zE ?_ GE282.out) | exact HB.out)⟩
    ·rw [if_neg c7] at H
     have c7b0 : (a0_3 == 0) = false := beq_eq_false_iff_ne.mpr c7
     have c7b1 : (a0_3 != 0) = true := bne_iff_ne.mpr c7
     obtain rfl := Option.some.inj H
     go_enter Try.func148, Try.ntmps148
     go_wp2_with (first | ((with_reducible refine gate_dst (N := 1) rfl ?_); refine box_event ?hg (N := 1) ?hd (cs := #[.slice A0_0 l0_0.length c0_0, .int .i64 a0_1, .int .i64 a0_2, .int .i64 a0_3, .int .i64 a0_4]) (t := 38) ?hr ?_; (case hd => rfl); (case hg => rfl); (case hr => first | (go_simp; done) | (go_simp; rfl)); intro gb282 hg w10 hbox hb; have n0_ := zA (below_step (by repeat (first | (with_reducible first | exact HB.out | apply zC | apply zB | apply zF) | exact HB.out)) hb); have n1_ := zA (hbox); have n2_ := zA ((by rw [hg]; exact (zL (by repeat (first | (with_reducible first | exact HB.out | apply zC | apply zB | apply zF) | exact HB.out))) : w.heap.size ≤ gb282)); have n3_ := zA ((by rw [hg]; exact (zL (by repeat (first | (with_reducible first | exact HB.out | apply zC | apply zB | apply zF) | exact HB.out))) : w.heap.size ≤ gb282)); clear HB; have HB := n0_; have BK282 := n1_; have GW282 := n2_; have GE282 := n3_; clear n0_ n1_ n2_ n3_; clear hb hbox hg; have hcz11_0 : w10.cell? ⟨gb282, 0, none⟩ = some (.slice A0_0 l0_0.length c0_0) := (zK BK282.out 0).trans rfl; have hcz11_1 : w10.cell? ⟨gb282, 1, none⟩ = some (.int .i64 a0_1) := (zK BK282.out 1).trans rfl; have hcz11_2 : w10.cell? ⟨gb282, 2, none⟩ = some (.int .i64 a0_2) := (zK BK282.out 2).trans rfl; have hcz11_3 : w10.cell? ⟨gb282, 3, none⟩ = some (.int .i64 a0_3) := (zK BK282.out 3).trans rfl; have hcz11_4 : w10.cell? ⟨gb282, 4, none⟩ = some (.int .i64 a0_4) := (zK BK282.out 4).trans rfl; have hfz11_0 := zJ BK282.out 0; have hfz11_1 := zJ BK282.out 1; have hfz11_2 := zJ BK282.out 2; have hfz11_3 := zJ BK282.out 3; have hfz11_4 := zJ BK282.out 4) | ((with_reducible refine gate_callee (f := 58) rfl ?_); refine goesL_ (some 7) rfl rfl Try.func58 (by kernel_rfl) rfl #[.int .i64 a0_1, .int .i64 0, .int .i64 a0_2] rfl (by (try simp only [zU, zV, zW]); first | done | rfl | (simp only [zR, zQ]; rfl)) ?_; (with_reducible refine (spec_l01Between.calls a0_1 0 a0_2 true _ A2.out).mono ?_); rintro e w' ⟨rfl, ⟨nd, rfl⟩⟩; refine ⟨_, rfl, ?_⟩) | (go_at_call 58; (with_reducible refine (spec_l01Between.calls a0_4 0 13 true _ A5.out).mono ?_); rintro e w' ⟨rfl, ⟨nd, rfl⟩⟩))
     go_ret
     exact ⟨by first | rfl | (simp [errW_none, errW_some] <;> rfl) | (simp [*, errW_none, errW_some] <;> rfl), by repeat (first | (with_reducible first | exact HB.out | apply zC | apply zB | apply zF | refine zE ?_ GE282.out) | exact HB.out)⟩
   ·replace c6 := Bool.eq_false_iff.mpr c6
    subst c6
    have H1 : (some false) = some r := by rw [if_neg (show ¬ (false = true) by decide)] at H; exact H
    clear H
    have H := H1
    clear H1
    obtain rfl := Option.some.inj H
    go_enter Try.func148, Try.ntmps148
    go_wp2_with (first | ((with_reducible refine gate_dst (N := 1) rfl ?_); refine box_event ?hg (N := 1) ?hd (cs := #[.slice A0_0 l0_0.length c0_0, .int .i64 a0_1, .int .i64 a0_2, .int .i64 a0_3, .int .i64 a0_4]) (t := 38) ?hr ?_; (case hd => rfl); (case hg => rfl); (case hr => first | (go_simp; done) | (go_simp; rfl)); intro gb282 hg w12 hbox hb; have n0_ := zA (below_step (by repeat (first | (with_reducible first | exact HB.out | apply zC | apply zB | apply zF) | exact HB.out)) hb); have n1_ := zA (hbox); have n2_ := zA ((by rw [hg]; exact (zL (by repeat (first | (with_reducible first | exact HB.out | apply zC | apply zB | apply zF) | exact HB.out))) : w.heap.size ≤ gb282)); have n3_ := zA ((by rw [hg]; exact (zL (by repeat (first | (with_reducible first | exact HB.out | apply zC | apply zB | apply zF) | exact HB.out))) : w.heap.size ≤ gb282)); clear HB; have HB := n0_; have BK282 := n1_; have GW282 := n2_; have GE282 := n3_; clear n0_ n1_ n2_ n3_; clear hb hbox hg; have hcz13_0 : w12.cell? ⟨gb282, 0, none⟩ = some (.slice A0_0 l0_0.length c0_0) := (zK BK282.out 0).trans rfl; have hcz13_1 : w12.cell? ⟨gb282, 1, none⟩ = some (.int .i64 a0_1) := (zK BK282.out 1).trans rfl; have hcz13_2 : w12.cell? ⟨gb282, 2, none⟩ = some (.int .i64 a0_2) := (zK BK282.out 2).trans rfl; have hcz13_3 : w12.cell? ⟨gb282, 3, none⟩ = some (.int .i64 a0_3) := (zK BK282.out 3).trans rfl; have hcz13_4 : w12.cell? ⟨gb282, 4, none⟩ = some (.int .i64 a0_4) := (zK BK282.out 4).trans rfl; have hfz13_0 := zJ BK282.out 0; have hfz13_1 := zJ BK282.out 1; have hfz13_2 := zJ BK282.out 2; have hfz13_3 := zJ BK282.out 3; have hfz13_4 := zJ BK282.out 4) | ((with_reducible refine gate_callee (f := 58) rfl ?_); refine goesL_ (some 7) rfl rfl Try.func58 (by kernel_rfl) rfl #[.int .i64 a0_1, .int .i64 0, .int .i64 a0_2] rfl (by (try simp only [zU, zV, zW]); first | done | rfl | (simp only [zR, zQ]; rfl)) ?_; (with_reducible refine (spec_l01Between.calls a0_1 0 a0_2 true _ A2.out).mono ?_); rintro e w' ⟨rfl, ⟨nd, rfl⟩⟩; refine ⟨_, rfl, ?_⟩) | (go_at_call 58; (with_reducible refine (spec_l01Between.calls a0_4 0 13 false _ A5.out).mono ?_); rintro e w' ⟨rfl, ⟨nd, rfl⟩⟩))
    go_ret
    exact ⟨by first | rfl | (simp [errW_none, errW_some] <;> rfl) | (simp [*, errW_none, errW_some] <;> rfl), by repeat (first | (with_reducible first | exact HB.out | apply zC | apply zB | apply zF | refine zE ?_ GE282.out) | exact HB.out)⟩
  ·rw [if_neg c4] at H
   have c4b0 : decide (a0_2 ≤ 63) = false := decide_eq_false c4
   clear c4
   obtain rfl := Option.some.inj H
   go_enter Try.func148, Try.ntmps148
   go_wp2_with (first | ((with_reducible refine gate_dst (N := 1) rfl ?_); refine box_event ?hg (N := 1) ?hd (cs := #[.slice A0_0 l0_0.length c0_0, .int .i64 a0_1, .int .i64 a0_2, .int .i64 a0_3, .int .i64 a0_4]) (t := 38) ?hr ?_; (case hd => rfl); (case hg => rfl); (case hr => first | (go_simp; done) | (go_simp; rfl)); intro gb282 hg w14 hbox hb; have n0_ := zA (below_step (by repeat (first | (with_reducible first | exact HB.out | apply zC | apply zB | apply zF) | exact HB.out)) hb); have n1_ := zA (hbox); have n2_ := zA ((by rw [hg]; exact (zL (by repeat (first | (with_reducible first | exact HB.out | apply zC | apply zB | apply zF) | exact HB.out))) : w.heap.size ≤ gb282)); have n3_ := zA ((by rw [hg]; exact (zL (by repeat (first | (with_reducible first | exact HB.out | apply zC | apply zB | apply zF) | exact HB.out))) : w.heap.size ≤ gb282)); clear HB; have HB := n0_; have BK282 := n1_; have GW282 := n2_; have GE282 := n3_; clear n0_ n1_ n2_ n3_; clear hb hbox hg; have hcz15_0 : w14.cell? ⟨gb282, 0, none⟩ = some (.slice A0_0 l0_0.length c0_0) := (zK BK282.out 0).trans rfl; have hcz15_1 : w14.cell? ⟨gb282, 1, none⟩ = some (.int .i64 a0_1) := (zK BK282.out 1).trans rfl; have hcz15_2 : w14.cell? ⟨gb282, 2, none⟩ = some (.int .i64 a0_2) := (zK BK282.out 2).trans rfl; have hcz15_3 : w14.cell? ⟨gb282, 3, none⟩ = some (.int .i64 a0_3) := (zK BK282.out 3).trans rfl; have hcz15_4 : w14.cell? ⟨gb282, 4, none⟩ = some (.int .i64 a0_4) := (zK BK282.out 4).trans rfl; have hfz15_0 := zJ BK282.out 0; have hfz15_1 := zJ BK282.out 1; have hfz15_2 := zJ BK282.out 2; have hfz15_3 := zJ BK282.out 3; have hfz15_4 := zJ BK282.out 4) | ((with_reducible refine gate_callee (f := 58) rfl ?_); refine goesL_ (some 7) rfl rfl Try.func58 (by kernel_rfl) rfl #[.int .i64 a0_1, .int .i64 0, .int .i64 a0_2] rfl (by (try simp only [zU, zV, zW]); first | done | rfl | (simp only [zR, zQ]; rfl)) ?_; (with_reducible refine (spec_l01Between.calls a0_1 0 a0_2 true _ A2.out).mono ?_); rintro e w' ⟨rfl, ⟨nd, rfl⟩⟩; refine ⟨_, rfl, ?_⟩))
   go_ret
   exact ⟨by first | rfl | (simp [errW_none, errW_some] <;> rfl) | (simp [*, errW_none, errW_some] <;> rfl), by repeat (first | (with_reducible first | exact HB.out | apply zC | apply zB | apply zF | refine zE ?_ GE282.out) | exact HB.out)⟩
 ·replace c3 := Bool.eq_false_iff.mpr c3
  subst c3
  have H1 : (some false) = some r := by rw [if_neg (show ¬ (false = true) by decide)] at H; exact H
  clear H
  have H := H1
  clear H1
  obtain rfl := Option.some.inj H
  go_enter Try.func148, Try.ntmps148
  go_wp2_with (first | ((with_reducible refine gate_dst (N := 1) rfl ?_); refine box_event ?hg (N := 1) ?hd (cs := #[.slice A0_0 l0_0.length c0_0, .int .i64 a0_1, .int .i64 a0_2, .int .i64 a0_3, .int .i64 a0_4]) (t := 38) ?hr ?_; (case hd => rfl); (case hg => rfl); (case hr => first | (go_simp; done) | (go_simp; rfl)); intro gb282 hg w16 hbox hb; have n0_ := zA (below_step (by repeat (first | (with_reducible first | exact HB.out | apply zC | apply zB | apply zF) | exact HB.out)) hb); have n1_ := zA (hbox); have n2_ := zA ((by rw [hg]; exact (zL (by repeat (first | (with_reducible first | exact HB.out | apply zC | apply zB | apply zF) | exact HB.out))) : w.heap.size ≤ gb282)); have n3_ := zA ((by rw [hg]; exact (zL (by repeat (first | (with_reducible first | exact HB.out | apply zC | apply zB | apply zF) | exact HB.out))) : w.heap.size ≤ gb282)); clear HB; have HB := n0_; have BK282 := n1_; have GW282 := n2_; have GE282 := n3_; clear n0_ n1_ n2_ n3_; clear hb hbox hg; have hcz17_0 : w16.cell? ⟨gb282, 0, none⟩ = some (.slice A0_0 l0_0.length c0_0) := (zK BK282.out 0).trans rfl; have hcz17_1 : w16.cell? ⟨gb282, 1, none⟩ = some (.int .i64 a0_1) := (zK BK282.out 1).trans rfl; have hcz17_2 : w16.cell? ⟨gb282, 2, none⟩ = some (.int .i64 a0_2) := (zK BK282.out 2).trans rfl; have hcz17_3 : w16.cell? ⟨gb282, 3, none⟩ = some (.int .i64 a0_3) := (zK BK282.out 3).trans rfl; have hcz17_4 : w16.cell? ⟨gb282, 4, none⟩ = some (.int .i64 a0_4) := (zK BK282.out 4).trans rfl; have hfz17_0 := zJ BK282.out 0; have hfz17_1 := zJ BK282.out 1; have hfz17_2 := zJ BK282.out 2; have hfz17_3 := zJ BK282.out 3; have hfz17_4 := zJ BK282.out 4) | ((with_reducible refine gate_callee (f := 58) rfl ?_); refine goesL_ (some 7) rfl rfl Try.func58 (by kernel_rfl) rfl #[.int .i64 a0_1, .int .i64 0, .int .i64 a0_2] rfl (by (try simp only [zU, zV, zW]); first | done | rfl | (simp only [zR, zQ]; rfl)) ?_; (with_reducible refine (spec_l01Between.calls a0_1 0 a0_2 false _ A2.out).mono ?_); rintro e w' ⟨rfl, ⟨nd, rfl⟩⟩; refine ⟨_, rfl, ?_⟩))
  go_ret
  exact ⟨by first | rfl | (simp [errW_none, errW_some] <;> rfl) | (simp [*, errW_none, errW_some] <;> rfl), by repeat (first | (with_reducible first | exact HB.out | apply zC | apply zB | apply zF | refine zE ?_ GE282.out) | exact HB.out)⟩
end Go.Proofs.Ytilimpjcdeeaiaa.G


namespace Go.Proofs.Ytilimpjcdeeaiaa.G
open Go.RowKit Go.Proofs.YtilimpjcdeeaiaaW.PrintWords Go.Proofs.YtilimpjcdeeaiaaW.PrintLast Go.Proofs.YtilimpjcdeeaiaaW.PrintMore
attribute [local go_sem] max2_int min2_int max_two min_two max_three min_three max_four min_four   -- for this text's walks alone
def spec_ScanOk.f (k : Nat) (a0_0 : Int) (a0_1 : Int) (a0_2 : Int) (a0_3 : Int) (l0_4 : List (S102)) (l1_0 : List Int) (a1_1 : Int) (a1_2 : Int) (a1_3 : Int) (a1_4 : Int) : Option (Bool) := (spec_FrameOk.f k a0_0 a0_1 a0_2 a0_3 l0_4).bind fun t287 => (if t287 = true then ((spec_l04Comps.f k a0_0 a0_1 a0_2 a0_3 l0_4 l1_0).bind fun t288 => (if t288 = true then ((spec_l12Bits.f l1_0 a1_1 a1_2 a1_3 a1_4).bind fun t289 => (some t289)) else (some false))) else (some false))
set_option maxHeartbeats 8000000 in
set_option maxRecDepth 100000 in
theorem spec_ScanOk.calls (k : Nat) (a0_0 : Int) (a0_1 : Int) (a0_2 : Int) (a0_3 : Int) (A0_4 : Option Addr) (c0_4 : Nat) (l0_4 : List (S102)) (A1_0 : Option Addr) (c1_0 : Nat) (l1_0 : List Int) (a1_1 : Int) (a1_2 : Int) (a1_3 : Int) (a1_4 : Int) (r : Bool) (w : World) (hr0_4 : Kd.C k102 w A0_4 l0_4.length l0_4) (hc0_4 : l0_4.length ≤ c0_4) (hr1_0 : Kd.C (Kd.int .i64) w A1_0 l1_0.length l1_0) (hc1_0 : l1_0.length ≤ c1_0) (h : spec_ScanOk.f k a0_0 a0_1 a0_2 a0_3 l0_4 l1_0 a1_1 a1_2 a1_3 a1_4 = some r) :
  Calls Try.prog 116 #[.agg #[.int .i64 a0_0, .int .i64 a0_1, .int .i64 a0_2, .int .i64 a0_3, .slice A0_4 l0_4.length c0_4], .agg #[.slice A1_0 l1_0.length c1_0, .int .i64 a1_1, .int .i64 a1_2, .int .i64 a1_3, .int .i64 a1_4]] w fun e w' => e = .returned (.bool r) ∧ Below w.heap.size w w' := by
 have hu26 := Try.underlying26
 have hu38 := Try.underlying38
 have HR0_4 := zA hr0_4
 have HC0_4 := zA hc0_4
 clear hr0_4 hc0_4
 have HR1_0 := zA hr1_0
 have HC1_0 := zA hc1_0
 clear hr1_0 hc1_0
 have HB := zA (Below.refl w.heap.size w)
 have H : ((spec_FrameOk.f k a0_0 a0_1 a0_2 a0_3 l0_4).bind fun t287 => (if t287 = true then ((spec_l04Comps.f k a0_0 a0_1 a0_2 a0_3 l0_4 l1_0).bind fun t288 => (if t288 = true then ((spec_l12Bits.f l1_0 a1_1 a1_2 a1_3 a1_4).bind fun t289 => (some t289)) else (some false))) else (some false))) = some r := h
 clear h
 replace H := Option.bind_eq_some_iff.mp H
 obtain ⟨t287, A30, H⟩ := H
 replace H : (if t287 = true then ((spec_l04Comps.f k a0_0 a0_1 a0_2 a0_3 l0_4 l1_0).bind fun t288 => (if t288 = true then ((spec_l12Bits.f l1_0 a1_1 a1_2 a1_3 a1_4).bind fun t289 => (some t289)) else (some false))) else (some false)) = some r := H
 have A3 := zA A30
 clear A30
 by_cases c4 : t287 = true
 ·subst c4
  have H1 : ((spec_l04Comps.f k a0_0 a0_1 a0_2 a0_3 l0_4 l1_0).bind fun t288 => (if t288 = true then ((spec_l12Bits.f l1_0 a1_1 a1_2 a1_3 a1_4).bind fun t289 => (some t289)) else (some false))) = some r := by rw [if_pos rfl] at H; exact H
  clear H
  have H := H1
  clear H1
  replace H := Option.bind_eq_some_iff.mp H
  obtain ⟨t288, A50, H⟩ := H
  replace H : (if t288 = true then ((spec_l12Bits.f l1_0 a1_1 a1_2 a1_3 a1_4).bind fun t289 => (some t289)) else (some false)) = some r := H
  have A5 := zA A50
  clear A50
  by_cases c6 : t288 = true
  ·subst c6
   have H1 : ((spec_l12Bits.f l1_0 a1_1 a1_2 a1_3 a1_4).bind fun t289 => (some t289)) = some r := by rw [if_pos rfl] at H; exact H
   clear H
   have H := H1
   clear H1
   replace H := Option.bind_eq_some_iff.mp H
   obtain ⟨t289, A70, H⟩ := H
   replace H : (some t289) = some r := H
   have A7 := zA A70
   clear A70
   obtain rfl := Option.some.inj H
   go_enter Try.func116, Try.ntmps116
   go_wp2_with (first | ((with_reducible refine gate_dst (N := 2) rfl ?_); refine box_event ?hg (N := 2) ?hd (cs := #[.int .i64 a0_0, .int .i64 a0_1, .int .i64 a0_2, .int .i64 a0_3, .slice A0_4 l0_4.length c0_4]) (t := 26) ?hr ?_; (case hd => rfl); (case hg => rfl); (case hr => first | (go_simp; done) | (go_simp; rfl)); intro gb285 hg w8 hbox hb; have n0_ := zA (below_step (by repeat (first | (with_reducible first | exact HB.out | apply zC | apply zB | apply zF) | exact HB.out)) hb); have n1_ := zA (hbox); have n2_ := zA ((by rw [hg]; exact (zL (by repeat (first | (with_reducible first | exact HB.out | apply zC | apply zB | apply zF) | exact HB.out))) : w.heap.size ≤ gb285)); have n3_ := zA ((by rw [hg]; exact (zL (by repeat (first | (with_reducible first | exact HB.out | apply zC | apply zB | apply zF) | exact HB.out))) : w.heap.size ≤ gb285)); clear HB; have HB := n0_; have BK285 := n1_; have GW285 := n2_; have GE285 := n3_; clear n0_ n1_ n2_ n3_; clear hb hbox hg) | ((with_reducible refine gate_dst (N := 3) rfl ?_); refine box_event ?hg (N := 3) ?hd (cs := #[.slice A1_0 l1_0.length c1_0, .int .i64 a1_1, .int .i64 a1_2, .int .i64 a1_3, .int .i64 a1_4]) (t := 38) ?hr ?_; (case hd => rfl); (case hg => rfl); (case hr => first | (go_simp; done) | (go_simp; rfl)); intro gb286 hg w9 hbox hb; have n0_ := zA (blk_below (g := gb285) (o := .cells #[.int .i64 a0_0, .int .i64 a0_1, .int .i64 a0_2, .int .i64 a0_3, .slice A0_4 l0_4.length c0_4] 26 (0, 0)) (by (with_reducible repeat (first | refine zG ?_ _ | refine zH ?_ | refine zD ?_ _)); exact BK285.out) hb); have n1_ := zA (below_step (by repeat (first | (with_reducible first | exact HB.out | apply zC | apply zB | apply zF | refine zE ?_ GE285.out) | exact HB.out)) hb); have n2_ := zA (hbox); have n3_ := zA ((by rw [hg]; exact (zL (by repeat (first | (with_reducible first | exact HB.out | apply zC | apply zB | apply zF | refine zE ?_ GE285.out) | exact HB.out))) : w.heap.size ≤ gb286)); have n4_ := zA ((by rw [hg]; exact (zL (by repeat (first | (with_reducible first | exact HB.out | apply zC | apply zB | apply zF | refine zE ?_ GE285.out) | exact HB.out))) : w.heap.size ≤ gb286)); have n5_ := zA ((by rw [hg]; exact Nat.ne_of_lt (blk_lt (g := gb285) (o := .cells #[.int .i64 a0_0, .int .i64 a0_1, .int .i64 a0_2, .int .i64 a0_3, .slice A0_4 l0_4.length c0_4] 26 (0, 0)) (by (with_reducible repeat (first | refine zG ?_ _ | refine zH ?_ | refine zD ?_ _)); exact BK285.out)) : gb285 ≠ gb286)); have n6_ := zA ((by rw [hg]; exact Nat.ne_of_gt (blk_lt (g := gb285) (o := .cells #[.int .i64 a0_0, .int .i64 a0_1, .int .i64 a0_2, .int .i64 a0_3, .slice A0_4 l0_4.length c0_4] 26 (0, 0)) (by (with_reducible repeat (first | refine zG ?_ _ | refine zH ?_ | refine zD ?_ _)); exact BK285.out)) : gb286 ≠ gb285)); clear BK285; clear HB; have BK285 := n0_; have HB := n1_; have BK286 := n2_; have GW286 := n3_; have GE286 := n4_; have NB285_286 := n5_; have NB286_285 := n6_; clear n0_ n1_ n2_ n3_ n4_ n5_ n6_; clear hb hbox hg; have hnb10 := NB285_286.out; have hnc10 := NB286_285.out; have hcz11_0 : w9.cell? ⟨gb285, 0, none⟩ = some (.int .i64 a0_0) := (zK BK285.out 0).trans rfl; have hcz11_1 : w9.cell? ⟨gb285, 1, none⟩ = some (.int .i64 a0_1) := (zK BK285.out 1).trans rfl; have hcz11_2 : w9.cell? ⟨gb285, 2, none⟩ = some (.int .i64 a0_2) := (zK BK285.out 2).trans rfl; have hcz11_3 : w9.cell? ⟨gb285, 3, none⟩ = some (.int .i64 a0_3) := (zK BK285.out 3).trans rfl; have hcz11_4 : w9.cell? ⟨gb285, 4, none⟩ = some (.slice A0_4 l0_4.length c0_4) := (zK BK285.out 4).trans rfl; have hfz11_0 := zJ BK285.out 0; have hfz11_1 := zJ BK285.out 1; have hfz11_2 := zJ BK285.out 2; have hfz11_3 := zJ BK285.out 3; have hfz11_4 := zJ BK285.out 4) | ((with_reducible refine gate_callee (f := 12) rfl ?_); refine goesL_ (some 6) rfl rfl Try.func12 (by kernel_rfl) rfl #[.agg #[.int .i64 a0_0, .int .i64 a0_1, .int .i64 a0_2, .int .i64 a0_3, .slice A0_4 l0_4.length c0_4]] rfl (by (try simp only [zU, zV, zW]); first | done | rfl | (simp only [zR, zQ]; rfl)) ?_; (with_reducible refine (spec_FrameOk.calls k a0_0 a0_1 a0_2 a0_3 _ _ l0_4 true _ ?side1 ?side2 A3.out).mono ?_); (case side1 => repeat (first | exact (Kd.C_below HR0_4.out HB.out) | (with_reducible refine yN ?_ _) | (with_reducible refine yL ?_ _) | (with_reducible refine yM ?_))); (case side2 => exact HC0_4.out); rintro e w12 ⟨rfl, hb⟩; refine ⟨_, rfl, ?_⟩; have n0_ := zA (blk_below (g := gb285) (o := .cells #[.int .i64 a0_0, .int .i64 a0_1, .int .i64 a0_2, .int .i64 a0_3, .slice A0_4 l0_4.length c0_4] 26 (0, 0)) (by (with_reducible repeat (first | refine zG ?_ _ | refine zH ?_ | refine zD ?_ _)); exact BK285.out) hb); have n1_ := zA (blk_below (g := gb286) (o := .cells #[.slice A1_0 l1_0.length c1_0, .int .i64 a1_1, .int .i64 a1_2, .int .i64 a1_3, .int .i64 a1_4] 38 (0, 0)) (by (with_reducible repeat (first | refine zG ?_ _ | refine zH ?_ | refine zD ?_ _)); exact BK286.out) hb); have n2_ := zA (below_step (by repeat (first | (with_reducible first | exact HB.out | apply zC | apply zB | apply zF | refine zE ?_ GE285.out | refine zE ?_ GE286.out) | exact HB.out)) hb); clear BK285; clear BK286; clear HB; have BK285 := n0_; have BK286 := n1_; have HB := n2_; clear n0_ n1_ n2_; (try clear hb); (try clear hb2); (try clear hk); (try clear hi); have hcz13_0 : w12.cell? ⟨gb285, 0, none⟩ = some (.int .i64 a0_0) := (zK BK285.out 0).trans rfl; have hcz13_1 : w12.cell? ⟨gb285, 1, none⟩ = some (.int .i64 a0_1) := (zK BK285.out 1).trans rfl; have hcz13_2 : w12.cell? ⟨gb285, 2, none⟩ = some (.int .i64 a0_2) := (zK BK285.out 2).trans rfl; have hcz13_3 : w12.cell? ⟨gb285, 3, none⟩ = some (.int .i64 a0_3) := (zK BK285.out 3).trans rfl; have hcz13_4 : w12.cell? ⟨gb285, 4, none⟩ = some (.slice A0_4 l0_4.length c0_4) := (zK BK285.out 4).trans rfl; have hfz13_0 := zJ BK285.out 0; have hfz13_1 := zJ BK285.out 1; have hfz13_2 := zJ BK285.out 2; have hfz13_3 := zJ BK285.out 3; have hfz13_4 := zJ BK285.out 4; have hcz14_0 : w12.cell? ⟨gb286, 0, none⟩ = some (.slice A1_0 l1_0.length c1_0) := (zK BK286.out 0).trans rfl; have hcz14_1 : w12.cell? ⟨gb286, 1, none⟩ = some (.int .i64 a1_1) := (zK BK286.out 1).trans rfl; have hcz14_2 : w12.cell? ⟨gb286, 2, none⟩ = some (.int .i64 a1_2) := (zK BK286.out 2).trans rfl; have hcz14_3 : w12.cell? ⟨gb286, 3, none⟩ = some (.int .i64 a1_3) := (zK BK286.out 3).trans rfl; have hcz14_4 : w12.cell? ⟨gb286, 4, none⟩ = some (.int .i64 a1_4) := (zK BK286.out 4).trans rfl; have hfz14_0 := zJ BK286.out 0; have hfz14_1 := zJ BK286.out 1; have hfz14_2 := zJ BK286.out 2; have hfz14_3 := zJ BK286.out 3; have hfz14_4 := zJ BK286.out 4) | (go_at_call 147; (with_reducible refine (spec_l04Comps.calls k a0_0 a0_1 a0_2 a0_3 _ _ l0_4 _ _ l1_0 true _ ?side1 ?side2 ?side3 ?side4 A5.out).mono ?_); (case side1 => repeat (first | exact (Kd.C_below HR0_4.out HB.out) | (with_reducible refine yN ?_ _) | (with_reducible refine yL ?_ _) | (with_reducible refine yM ?_))); (case side2 => exact HC0_4.out); (case side3 => repeat (first | exact (Kd.C_below HR1_0.out HB.out) | (with_reducible refine yN ?_ _) | (with_reducible refine yL ?_ _) | (with_reducible refine yM ?_))); (case side4 => exact HC1_0.out); rintro e w15 ⟨rfl, hb⟩; have n0_ := zA (blk_below (g := gb285) (o := .cells #[.int .i64 a0_0, .int .i64 a0_1, .int .i64 a0_2, .int .i64 a0_3, .slice A0_4 l0_4.length c0_4] 26 (0, 0)) (by (with_reducible repeat (first | refine zG ?_ _ | refine zH ?_ | refine zD ?_ _)); exact BK285.out) hb); have n1_ := zA (blk_below (g := gb286) (o := .cells #[.slice A1_0 l1_0.length c1_0, .int .i64 a1_1, .int .i64 a1_2, .int .i64 a1_3, .int .i64 a1_4] 38 (0, 0)) (by (with_reducible repeat (first | refine zG ?_ _ | refine zH ?_ | refine zD ?_ _)); exact BK286.out) hb); have n2_ := zA (below_step (by repeat (first | (with_reducible first | exact HB.out | apply zC | apply zB | apply zF | refine zE ?_ GE285.out | refine zE ?_ GE286.out) | exact HB.out)) hb); clear BK285; clear BK286; clear HB; have BK285 := n0_; have BK286 := n1_; have HB := n2_; clear n0_ n1_ n2_; (try clear hb); (try clear hb2); (try clear hk); (try clear hi); have hcz16_0 : w15.cell? ⟨gb286, 0, none⟩ = some (.slice A1_0 l1_0.length c1_0) := (zK BK286.out 0).trans rfl; have hcz16_1 : w15.cell? ⟨gb286, 1, none⟩ = some (.int .i64 a1_1) := (zK BK286.out 1).trans rfl; have hcz16_2 : w15.cell? ⟨gb286, 2, none⟩ = some (.int .i64 a1_2) := (zK BK286.out 2).trans rfl; have hcz16_3 : w15.cell? ⟨gb286, 3, none⟩ = some (.int .i64 a1_3) := (zK BK286.out 3).trans rfl; have hcz16_4 : w15.cell? ⟨gb286, 4, none⟩ = some (.int .i64 a1_4) := (zK BK286.out 4).trans rfl; have hfz16_0 := zJ BK286.out 0; have hfz16_1 := zJ BK286.out 1; have hfz16_2 := zJ BK286.out 2; have hfz16_3 := zJ BK286.out 3; have hfz16_4 := zJ BK286.out 4) | (go_at_call 148; (with_reducible refine (spec_l12Bits.calls _ _ l1_0 a1_1 a1_2 a1_3 a1_4 t289 _ ?side1 ?side2 A7.out).mono ?_); (case side1 => repeat (first | exact (Kd.C_below HR1_0.out HB.out) | (with_reducible refine yN ?_ _) | (with_reducible refine yL ?_ _) | (with_reducible refine yM ?_))); (case side2 => exact HC1_0.out); rintro e w17 ⟨rfl, hb⟩; have n0_ := zA (blk_below (g := gb285) (o := .cells #[.int .i64 a0_0, .int .i64 a0_1, .int .i64 a0_2, .int .i64 a0_3, .slice A0_4 l0_4.length c0_4] 26 (0, 0)) (by (with_reducible repeat (first | refine zG ?_ _ | refine zH ?_ | refine zD ?_ _)); exact BK285.out) hb); have n1_ := zA (blk_below (g := gb286) (o := .cells #[.slice A1_0 l1_0.length c1_0, .int .i64 a1_1, .int .i64 a1_2, .int .i64 a1_3, .int .i64 a1_4] 38 (0, 0)) (by (with_reducible repeat (first | refine zG ?_ _ | refine zH ?_ | refine zD ?_ _)); exact BK286.out) hb); have n2_ := zA (below_step (by repeat (first | (with_reducible first | exact HB.out | apply zC | apply zB | apply zF | refine zE ?_ GE285.out | refine zE ?_ GE286.out) | exact HB.out)) hb); clear BK285; clear BK286; clear HB; have BK285 := n0_; have BK286 := n1_; have HB := n2_; clear n0_ n1_ n2_; (try clear hb); (try clear hb2); (try clear hk); (try clear hi)))
   go_ret
   exact ⟨by first | rfl | (simp [errW_none, errW_some] <;> rfl) | (simp [*, errW_none, errW_some] <;> rfl), by repeat (first | (with_reducible first | exact HB.out | apply zC | apply zB | apply zF | refine zE ?_ GE285.out | refine zE ?_ GE286.out) | exact HB.out)⟩
  ·replace c6 := Bool.eq_false_iff.mpr c6
   subst c6
   have H1 : (some false) = some r := by rw [if_neg (show ¬ (false = true) by decide)] at H; exact H
   clear H
   have H := H1
   clear H1
   obtain rfl := Option.some.inj H
   go_enter Try.func116, Try.ntmps116
   go_wp2_with (first | ((with_reducible refine gate_dst (N := 2) rfl ?_); refine box_event ?hg (N := 2) ?hd (cs := #[.int .i64 a0_0, .int .i64 a0_1, .int .i64 a0_2, .int .i64 a0_3, .slice A0_4 l0_4.length c0_4]) (t := 26) ?hr ?_; (case hd => rfl); (case hg => rfl); (case hr => first | (go_simp; done) | (go_simp; rfl)); intro gb285 hg w18 hbox hb; have n0_ := zA (below_step (by repeat (first | (with_reducible first | exact HB.out | apply zC | apply zB | apply zF) | exact HB.out)) hb); have n1_ := zA (hbox); have n2_ := zA ((by rw [hg]; exact (zL (by repeat (first | (with_reducible first | exact HB.out | apply zC | apply zB | apply zF) | exact HB.out))) : w.heap.size ≤ gb285)); have n3_ := zA ((by rw [hg]; exact (zL (by repeat (first | (with_reducible first | exact HB.out | apply zC | apply zB | apply zF) | exact HB.out))) : w.heap.size ≤ gb285)); clear HB; have HB := n0_; have BK285 := n1_; have GW285 := n2_; have GE285 := n3_; clear n0_ n1_ n2_ n3_; clear hb hbox hg) | ((with_reducible refine gate_dst (N := 3) rfl ?_); refine box_event ?hg (N := 3) ?hd (cs := #[.slice A1_0 l1_0.length c1_0, .int .i64 a1_1, .int .i64 a1_2, .int .i64 a1_3, .int .i64 a1_4]) (t := 38) ?hr ?_; (case hd => rfl); (case hg => rfl); (case hr => first | (go_simp; done) | (go_simp; rfl)); intro gb286 hg w19 hbox hb; have n0_ := zA (blk_below (g := gb285) (o := .cells #[.int .i64 a0_0, .int .i64 a0_1, .int .i64 a0_2, .int .i64 a0_3, .slice A0_4 l0_4.length c0_4] 26 (0, 0)) (by (with_reducible repeat (first | refine zG ?_ _ | refine zH ?_ | refine zD ?_ _)); exact BK285.out) hb); have n1_ := zA (below_step (by repeat (first | (with_reducible first | exact HB.out | apply zC | apply zB | apply zF | refine zE ?_ GE285.out) | exact HB.out)) hb); have n2_ := zA (hbox); have n3_ := zA ((by rw [hg]; exact (zL (by repeat (first | (with_reducible first | exact HB.out | apply zC | apply zB | apply zF | refine zE ?_ GE285.out) | exact HB.out))) : w.heap.size ≤ gb286)); have n4_ := zA ((by rw [hg]; exact (zL (by repeat (first | (with_reducible first | exact HB.out | apply zC | apply zB | apply zF | refine zE ?_ GE285.out) | exact HB.out))) : w.heap.size ≤ gb286)); have n5_ := zA ((by rw [hg]; exact Nat.ne_of_lt (blk_lt (g := gb285) (o := .cells #[.int .i64 a0_0, .int .i64 a0_1, .int .i64 a0_2, .int .i64 a0_3, .slice A0_4 l0_4.length c0_4] 26 (0, 0)) (by (with_reducible repeat (first | refine zG ?_ _ | refine zH ?_ | refine zD ?_ _)); exact BK285.out)) : gb285 ≠ gb286)); have n6_ := zA ((by rw [hg]; exact Nat.ne_of_gt (blk_lt (g := gb285) (o := .cells #[.int .i64 a0_0, .int .i64 a0_1, .int .i64 a0_2, .int .i64 a0_3, .slice A0_4 l0_4.length c0_4] 26 (0, 0)) (by (with_reducible repeat (first | refine zG ?_ _ | refine zH ?_ | refine zD ?_ _)); exact BK285.out)) : gb286 ≠ gb285)); clear BK285; clear HB; have BK285 := n0_; have HB := n1_; have BK286 := n2_; have GW286 := n3_; have GE286 := n4_; have NB285_286 := n5_; have NB286_285 := n6_; clear n0_ n1_ n2_ n3_ n4_ n5_ n6_; clear hb hbox hg; have hnb20 := NB285_286.out; have hnc20 := NB286_285.out; have hcz21_0 : w19.cell? ⟨gb285, 0, none⟩ = some (.int .i64 a0_0) := (zK BK285.out 0).trans rfl; have hcz21_1 : w19.cell? ⟨gb285, 1, none⟩ = some (.int .i64 a0_1) := (zK BK285.out 1).trans rfl; have hcz21_2 : w19.cell? ⟨gb285, 2, none⟩ = some (.int .i64 a0_2) := (zK BK285.out 2).trans rfl; have hcz21_3 : w19.cell? ⟨gb285, 3, none⟩ = some (.int .i64 a0_3) := (zK BK285.out 3).trans rfl; have hcz21_4 : w19.cell? ⟨gb285, 4, none⟩ = some (.slice A0_4 l0_4.length c0_4) := (zK BK285.out 4).trans rfl; have hfz21_0 := zJ BK285.out 0; have hfz21_1 := zJ BK285.out 1; have hfz21_2 := zJ BK285.out 2; have hfz21_3 := zJ BK285.out 3; have hfz21_4 := zJ BK285.out 4) | ((with_reducible refine gate_callee (f := 12) rfl ?_); refine goesL_ (some 6) rfl rfl Try.func12 (by kernel_rfl) rfl #[.agg #[.int .i64 a0_0, .int .i64 a0_1, .int .i64 a0_2, .int .i64 a0_3, .slice A0_4 l0_4.length c0_4]] rfl (by (try simp only [zU, zV, zW]); first | done | rfl | (simp only [zR, zQ]; rfl)) ?_; (with_reducible refine (spec_FrameOk.calls k a0_0 a0_1 a0_2 a0_3 _ _ l0_4 true _ ?side1 ?side2 A3.out).mono ?_); (case side1 => repeat (first | exact (Kd.C_below HR0_4.out HB.out) | (with_reducible refine yN ?_ _) | (with_reducible refine yL ?_ _) | (with_reducible refine yM ?_))); (case side2 => exact HC0_4.out); rintro e w22 ⟨rfl, hb⟩; refine ⟨_, rfl, ?_⟩; have n0_ := zA (blk_below (g := gb285) (o := .cells #[.int .i64 a0_0, .int .i64 a0_1, .int .i64 a0_2, .int .i64 a0_3, .slice A0_4 l0_4.length c0_4] 26 (0, 0)) (by (with_reducible repeat (first | refine zG ?_ _ | refine zH ?_ | refine zD ?_ _)); exact BK285.out) hb); have n1_ := zA (blk_below (g := gb286) (o := .cells #[.slice A1_0 l1_0.length c1_0, .int .i64 a1_1, .int .i64 a1_2, .int .i64 a1_3, .int .i64 a1_4] 38 (0, 0)) (by (with_reducible repeat (first | refine zG ?_ _ | refine zH ?_ | refine zD ?_ _)); exact BK286.out) hb); have n2_ := zA (below_step (by repeat (first | (with_reducible first | exact HB.out | apply zC | apply zB | apply zF | refine zE ?_ GE285.out | refine zE ?_ GE286.out) | exact HB.out)) hb); clear BK285; clear BK286; clear HB; have BK285 := n0_; have BK286 := n1_; have HB := n2_; clear n0_ n1_ n2_; (try clear hb); (try clear hb2); (try clear hk); (try clear hi); have hcz23_0 : w22.cell? ⟨gb285, 0, none⟩ = some (.int .i64 a0_0) := (zK BK285.out 0).trans rfl; have hcz23_1 : w22.cell? ⟨gb285, 1, none⟩ = some (.int .i64 a0_1) := (zK BK285.out 1).trans rfl; have hcz23_2 : w22.cell? ⟨gb285, 2, none⟩ = some (.int .i64 a0_2) := (zK BK285.out 2).trans rfl; have hcz23_3 : w22.cell? ⟨gb285, 3, none⟩ = some (.int .i64 a0_3) := (zK BK285.out 3).trans rfl; have hcz23_4 : w22.cell? ⟨gb285, 4, none⟩ = some (.slice A0_4 l0_4.length c0_4) := (zK BK285.out 4).trans rfl; have hfz23_0 := zJ BK285.out 0; have hfz23_1 := zJ BK285.out 1; have hfz23_2 := zJ BK285.out 2; have hfz23_3 := zJ BK285.out 3; have hfz23_4 := zJ BK285.out 4; have hcz24_0 : w22.cell? ⟨gb286, 0, none⟩ = some (.slice A1_0 l1_0.length c1_0) := (zK BK286.out 0).trans rfl; have hcz24_1 : w22.cell? ⟨gb286, 1, none⟩ = some (.int .i64 a1_1) := (zK BK286.out 1).trans rfl; have hcz24_2 : w22.cell? ⟨gb286, 2, none⟩ = some (.int .i64 a1_2) := (zK BK286.out 2).trans rfl; have hcz24_3 : w22.cell? ⟨gb286, 3, none⟩ = some (.int .i64 a1_3) := (zK BK286.out 3).trans rfl; have hcz24_4 : w22.cell? ⟨gb286, 4, none⟩ = some (.int .i64 a1_4) := (zK BK286.out 4).trans rfl; have hfz24_0 := zJ BK286.out 0; have hfz24_1 := zJ BK286.out 1; have hfz24_2 := zJ BK286.out 2; have hfz24_3 := zJ BK286.out 3; have hfz24_4 := zJ BK286.out 4) | (go_at_call 147; (with_reducible refine (spec_l04Comps.calls k a0_0 a0_1 a0_2 a0_3 _ _ l0_4 _ _ l1_0 false _ ?side1 ?side2 ?side3 ?side4 A5.out).mono ?_); (case side1 => repeat (first | exact (Kd.C_below HR0_4.out HB.out) | (with_reducible refine yN ?_ _) | (with_reducible refine yL ?_ _) | (with_reducible refine yM ?_))); (case side2 => exact HC0_4.out); (case side3 => repeat (first | exact (Kd.C_below HR1_0.out HB.out) | (with_reducible refine yN ?_ _) | (with_reducible refine yL ?_ _) | (with_reducible refine yM ?_))); (case side4 => exact HC1_0.out); rintro e w25 ⟨rfl, hb⟩; have n0_ := zA (blk_below (g := gb285) (o := .cells #[.int .i64 a0_0, .int .i64 a0_1, .int .i64 a0_2, .int .i64 a0_3, .slice A0_4 l0_4.length c0_4] 26 (0, 0)) (by (with_reducible repeat (first | refine zG ?_ _ | refine zH ?_ | refine zD ?_ _)); exact BK285.out) hb); have n1_ := zA (blk_below (g := gb286) (o := .cells #[.slice A1_0 l1_0.length c1_0, .int .i64 a1_1, .int .i64 a1_2, .int .i64 a1_3, .int .i64 a1_4] 38 (0, 0)) (by (with_reducible repeat (first | refine zG ?_ _ | refine zH ?_ | refine zD ?_ _)); exact BK286.out) hb); have n2_ := zA (below_step (by repeat (first | (with_reducible first | exact HB.out | apply zC | apply zB | apply zF | refine zE ?_ GE285.out | refine zE ?_ GE286.out) | exact HB.out)) hb); clear BK285; clear BK286; clear HB; have BK285 := n0_; have BK286 := n1_; have HB := n2_; clear n0_ n1_ n2_; (try clear hb); (try clear hb2); (try clear hk); (try clear hi)))
   go_ret
   exact ⟨by first | rfl | (simp [errW_none, errW_some] <;> rfl) | (simp [*, errW_none, errW_some] <;> rfl), by repeat (first | (with_reducible first | exact HB.out | apply zC | apply zB | apply zF | refine zE ?_ GE285.out | refine zE ?_ GE286.out) | exact HB.out)⟩
 ·replace c4 := Bool.eq_false_iff.mpr c4
  subst c4
  have H1 : (some false) = some r := by rw [if_neg (show ¬ (false = true) by decide)] at H; exact H
  clear H
  have H := H1
  clear H1
  obtain rfl := Option.some.inj H
  go_enter Try.func116, Try.ntmps116
  go_wp2_with (first | ((with_reducible refine gate_dst (N := 2) rfl ?_); refine box_event ?hg (N := 2) ?hd (cs := #[.int .i64 a0_0, .int .i64 a0_1, .int .i64 a0_2, .int .i64 a0_3, .slice A0_4 l0_4.length c0_4]) (t := 26) ?hr ?_; (case hd => rfl); (case hg => rfl); (case hr => first | (go_simp; done) | (go_simp; rfl)); intro gb285 hg w26 hbox hb; have n0_ := zA (below_step (by repeat (first | (with_reducible first | exact HB.out | apply zC | apply zB | apply zF) | exact HB.out)) hb); have n1_ := zA (hbox); have n2_ := zA ((by rw [hg]; exact (zL (by repeat (first | (with_reducible first | exact HB.out | apply zC | apply zB | apply zF) | exact HB.out))) : w.heap.size ≤ gb285)); have n3_ := zA ((by rw [hg]; exact (zL (by repeat (first | (with_reducible first | exact HB.out | apply zC | apply zB | apply zF) | exact HB.out))) : w.heap.size ≤ gb285)); clear HB; have HB := n0_; have BK285 := n1_; have GW285 := n2_; have GE285 := n3_; clear n0_ n1_ n2_ n3_; clear hb hbox hg) | ((with_reducible refine gate_dst (N := 3) rfl ?_); refine box_event ?hg (N := 3) ?hd (cs := #[.slice A1_0 l1_0.length c1_0, .int .i64 a1_1, .int .i64 a1_2, .int .i64 a1_3, .int .i64 a1_4]) (t := 38) ?hr ?_; (case hd => rfl); (case hg => rfl); (case hr => first | (go_simp; done) | (go_simp; rfl)); intro gb286 hg w27 hbox hb; have n0_ := zA (blk_below (g := gb285) (o := .cells #[.int .i64 a0_0, .int .i64 a0_1, .int .i64 a0_2, .int .i64 a0_3, .slice A0_4 l0_4.length c0_4] 26 (0, 0)) (by (with_reducible repeat (first | refine zG ?_ _ | refine zH ?_ | refine zD ?_ _)); exact BK285.out) hb); have n1_ := zA (below_step (by repeat (first | (with_reducible first | exact HB.out | apply zC | apply zB | apply zF | refine zE ?_ GE285.out) | exact HB.out)) hb); have n2_ := zA (hbox); have n3_ := zA ((by rw [hg]; exact (zL (by repeat (first | (with_reducible first | exact HB.out | apply zC | apply zB | apply zF | refine zE ?_ GE285.out) | exact HB.out))) : w.heap.size ≤ gb286)); have n4_ := zA ((by rw [hg]; exact (zL (by repeat (first | (with_reducible first | exact HB.out | apply zC | apply zB | apply zF | refine zE ?_ GE285.out) | exact HB.out))) : w.heap.size ≤ gb286)); have n5_ := zA ((by rw [hg]; exact Nat.ne_of_lt (blk_lt (g := gb285) (o := .cells #[.int .i64 a0_0, .int .i64 a0_1, .int .i64 a0_2, .int .i64 a0_3, .slice A0_4 l0_4.length c0_4] 26 (0, 0)) (by (with_reducible repeat (first | refine zG ?_ _ | refine zH ?_ | refine zD ?_ _)); exact BK285.out)) : gb285 ≠ gb286)); have n6_ := zA ((by rw [hg]; exact Nat.ne_of_gt (blk_lt (g := gb285) (o := .cells #[.int .i64 a0_0, .int .i64 a0_1, .int .i64 a0_2, .int .i64 a0_3, .slice A0_4 l0_4.length c0_4] 26 (0, 0)) (by (with_reducible repeat (first | refine zG ?_ _ | refine zH ?_ | refine zD ?_ _)); exact BK285.out)) : gb286 ≠ gb285)); clear BK285; clear HB; have BK285 := n0_; have HB := n1_; have BK286 := n2_; have GW286 := n3_; have GE286 := n4_; have NB285_286 := n5_; have NB286_285 := n6_; clear n0_ n1_ n2_ n3_ n4_ n5_ n6_; clear hb hbox hg; have hnb28 := NB285_286.out; have hnc28 := NB286_285.out; have hcz29_0 : w27.cell? ⟨gb285, 0, none⟩ = some (.int .i64 a0_0) := (zK BK285.out 0).trans rfl; have hcz29_1 : w27.cell? ⟨gb285, 1, none⟩ = some (.int .i64 a0_1) := (zK BK285.out 1).trans rfl; have hcz29_2 : w27.cell? ⟨gb285, 2, none⟩ = some (.int .i64 a0_2) := (zK BK285.out 2).trans rfl; have hcz29_3 : w27.cell? ⟨gb285, 3, none⟩ = some (.int .i64 a0_3) := (zK BK285.out 3).trans rfl; have hcz29_4 : w27.cell? ⟨gb285, 4, none⟩ = some (.slice A0_4 l0_4.length c0_4) := (zK BK285.out 4).trans rfl; have hfz29_0 := zJ BK285.out 0; have hfz29_1 := zJ BK285.out 1; have hfz29_2 := zJ BK285.out 2; have hfz29_3 := zJ BK285.out 3; have hfz29_4 := zJ BK285.out 4) | ((with_reducible refine gate_callee (f := 12) rfl ?_); refine goesL_ (some 6) rfl rfl Try.func12 (by kernel_rfl) rfl #[.agg #[.int .i64 a0_0, .int .i64 a0_1, .int .i64 a0_2, .int .i64 a0_3, .slice A0_4 l0_4.length c0_4]] rfl (by (try simp only [zU, zV, zW]); first | done | rfl | (simp only [zR, zQ]; rfl)) ?_; (with_reducible refine (spec_FrameOk.calls k a0_0 a0_1 a0_2 a0_3 _ _ l0_4 false _ ?side1 ?side2 A3.out).mono ?_); (case side1 => repeat (first | exact (Kd.C_below HR0_4.out HB.out) | (with_reducible refine yN ?_ _) | (with_reducible refine yL ?_ _) | (with_reducible refine yM ?_))); (case side2 => exact HC0_4.out); rintro e w30 ⟨rfl, hb⟩; refine ⟨_, rfl, ?_⟩; have n0_ := zA (blk_below (g := gb285) (o := .cells #[.int .i64 a0_0, .int .i64 a0_1, .int .i64 a0_2, .int .i64 a0_3, .slice A0_4 l0_4.length c0_4] 26 (0, 0)) (by (with_reducible repeat (first | refine zG ?_ _ | refine zH ?_ | refine zD ?_ _)); exact BK285.out) hb); have n1_ := zA (blk_below (g := gb286) (o := .cells #[.slice A1_0 l1_0.length c1_0, .int .i64 a1_1, .int .i64 a1_2, .int .i64 a1_3, .int .i64 a1_4] 38 (0, 0)) (by (with_reducible repeat (first | refine zG ?_ _ | refine zH ?_ | refine zD ?_ _)); exact BK286.out) hb); have n2_ := zA (below_step (by repeat (first | (with_reducible first | exact HB.out | apply zC | apply zB | apply zF | refine zE ?_ GE285.out | refine zE ?_ GE286.out) | exact HB.out)) hb); clear BK285; clear BK286; clear HB; have BK285 := n0_; have BK286 := n1_; have HB := n2_; clear n0_ n1_ n2_; (try clear hb); (try clear hb2); (try clear hk); (try clear hi)))
  go_ret
  exact ⟨by first | rfl | (simp [errW_none, errW_some] <;> rfl) | (simp [*, errW_none, errW_some] <;> rfl), by repeat (first | (with_reducible first | exact HB.out | apply zC | apply zB | apply zF | refine zE ?_ GE285.out | refine zE ?_ GE286.out) | exact HB.out)⟩
theorem spec_l04Comps.l0_ev (p w h r : Int) (l : List SC) (hn : 1 ≤ l.length ∧ l.length ≤ 4) (c : List Int) (hl : c.length ≤ 2000000) : ∀ (d i : Nat), i + d = c.length → Ev (fun k => spec_l04Comps.l0 k c (i : Int) p w h r l) (cgo l.length c i d && decide (0 < c.length)) := by
 intro d
 induction d with
 | zero =>
  intro i hi
  refine Ev.step (fun _ => by rw [spec_l04Comps.l0]) (Ev.ng (by omega) (Ev.eq (Ev.now _) ?_))
  rw [cgo, Bool.true_and]
  congr 1
  rw [eq_iff_iff]; omega
 | succ d ih =>
  intro i hi
  have hlt : i < c.length := by omega
  refine Ev.step (fun _ => by rw [spec_l04Comps.l0]) (Ev.ip (by omega) (Ev.ip (by omega) ?_))
  refine Ev.bind (Ev.c (spec_l01Between.val _ _ _)) ?_
  rw [cgo, wrap_in ((l.length : Int) - 1) (by omega) (by omega)]
  by_cases ha : (decide (0 ≤ rd c i) && decide (rd c i ≤ (l.length : Int) - 1)) = true
  ·refine Ev.ip ha ?_
   rw [ha, Bool.true_and]
   by_cases h0 : i = 0
   ·refine Ev.ng (by omega) ?_
    rw [wrap_succ i (by omega), zT h0, Bool.true_or, Bool.true_and]
    exact ih (i + 1) (by omega)
   ·refine Ev.ip (by omega) ?_
    rw [wrap_in ((i : Int) - 1) (by omega) (by omega), decide_eq_false h0, Bool.false_or]
    refine Ev.ip (by omega) (Ev.ip (by omega) ?_)
    by_cases hr : rd c ((i : Int) - 1) < rd c i
    ·refine Ev.ng (by omega) ?_
     rw [wrap_succ i (by omega), zT hr, Bool.true_and]
     exact ih (i + 1) (by omega)
    ·refine Ev.ip (by omega) (Ev.eq (Ev.now _) ?_)
     rw [decide_eq_false hr, Bool.false_and, Bool.false_and]
  ·refine Ev.ng ha (Ev.eq (Ev.now _) ?_)
   rw [Bool.eq_false_iff.2 ha, Bool.false_and, Bool.false_and]
theorem spec_l12Bits.val (l : List Int) (fr te hi lo : Int) : spec_l12Bits.f l fr te hi lo = some (passM fr te hi lo) := by
 unfold spec_l12Bits.f passM
 simp only [spec_l01Between.val, zS]
 by_cases h2 : te ≤ 63 <;> by_cases h3 : 0 ≤ fr <;> by_cases h4 : fr ≤ te <;> by_cases h5 : 0 ≤ lo <;> by_cases h6 : lo ≤ 13
 all_goals simp only [h2, h3, h4, h5, h6, decide_true, decide_false, Bool.and_true, Bool.true_and, Bool.false_and, Bool.and_false, if_true, if_false, Bool.false_eq_true]
 all_goals first | rfl | (exfalso; omega) | skip
 all_goals
  rw [wrap_in (lo + 1) (by omega) (by omega)]
  by_cases h7 : hi = 0
  ·rw [if_pos h7, zT h7, Bool.true_or]
  ·rw [if_neg h7, decide_eq_false h7, Bool.false_or]; rfl
theorem spec_ScanOk.ev (p w h r : Int) (l : List SC) (c : List Int) (fr te hi lo : Int) (hF : frameOkM p w h r l = true) (hl : c.length ≤ 2000000) : Ev (fun k => spec_ScanOk.f k p w h r l c fr te hi lo) (scanOkM l.length ⟨c, fr, te, hi, lo⟩) := by
 unfold spec_ScanOk.f
 refine Ev.bind (spec_FrameOk.ev p w h r l) (Ev.ip hF (Ev.bind (spec_l04Comps.l0_ev p w h r l (frameOk_len hF) c hl c.length 0 (Nat.zero_add _)) ?_))
 show Ev _ (compsOkM l.length c && passM fr te hi lo)
 by_cases h : (cgo l.length c 0 c.length && decide (0 < c.length)) = true
 ·rw [show compsOkM l.length c = true from h, Bool.true_and]
  exact Ev.ip h (Ev.bind (Ev.c (spec_l12Bits.val c fr te hi lo)) (Ev.now _))
 ·rw [show compsOkM l.length c = false from Bool.eq_false_iff.2 h, Bool.false_and]
  exact Ev.ng h (Ev.now _)
end Go.Proofs.Ytilimpjcdeeaiaa.G


namespace Go.Proofs.Ytilimpjcdeeaiaa.G
open Go.RowKit Go.Proofs.YtilimpjcdeeaiaaW.PrintWords Go.Proofs.YtilimpjcdeeaiaaW.PrintLast Go.Proofs.YtilimpjcdeeaiaaW.PrintMore
attribute [local go_sem] max2_int min2_int max_two min_two max_three min_three max_four min_four   -- for this text's walks alone
mutual
def spec_l12Left.j0 : Nat → List (S38) → List (List Int) → Bool → Int → Int → Int → Int → List (S102) → Option ((List (List Int)) × Bool)
 | 0, _, _, _, _, _, _, _, _ => none
 | k + 1, x1, x6, x23, x291000, x291001, x291002, x291003, x291004 => if x23 = true then (some (x6, false)) else (spec_l12Left.l0 k x1 x6 0 x291000 x291001 x291002 x291003 x291004)
def spec_l12Left.l0 : Nat → List (S38) → List (List Int) → Int → Int → Int → Int → Int → List (S102) → Option ((List (List Int)) × Bool)
 | 0, _, _, _, _, _, _, _, _ => none
 | k + 1, x1, x6, x7, x291000, x291001, x291002, x291003, x291004 => if x7 < (x291004.length : Int) then (spec_l12Left.l1 k x1 x6 x7 (([] : List Int)) 0 x291000 x291001 x291002 x291003 x291004) else (spec_l12Left.l2 k x1 x6 0 x291000 x291001 x291002 x291003 x291004)
def spec_l12Left.l1 : Nat → List (S38) → List (List Int) → Int → List Int → Int → Int → Int → Int → Int → List (S102) → Option ((List (List Int)) × Bool)
 | 0, _, _, _, _, _, _, _, _, _, _ => none
 | k + 1, x1, x6, x7, x8, x9, x291000, x291001, x291002, x291003, x291004 => if x9 < 64 then (if x8.length < 17592186044416 then (spec_l12Left.l1 k x1 x6 x7 (x8 ++ [(-1)]) (wrap64 (x9 + 1)) x291000 x291001 x291002 x291003 x291004) else (none)) else (if x6.length < 5864062014805 then (spec_l12Left.l0 k x1 (x6 ++ [x8]) (wrap64 (x7 + 1)) x291000 x291001 x291002 x291003 x291004) else (none))
def spec_l12Left.l2 : Nat → List (S38) → List (List Int) → Int → Int → Int → Int → Int → List (S102) → Option ((List (List Int)) × Bool)
 | 0, _, _, _, _, _, _, _, _ => none
 | k + 1, x1, x6, x10, x291000, x291001, x291002, x291003, x291004 => if x10 < (x1.length : Int) then (if 0 ≤ x10 then ((spec_ScanOk.f k x291000 x291001 x291002 x291003 x291004 ((rd_T38 x1 x10).f0) ((rd_T38 x1 x10).f1) ((rd_T38 x1 x10).f2) ((rd_T38 x1 x10).f3) ((rd_T38 x1 x10).f4)).bind fun t306 => (if t306 = true then (if ((rd_T38 x1 x10).f3) = 0 then (spec_l12Left.j4 k x1 x6 x10 (-1) x291000 x291001 x291002 x291003 x291004 ((rd_T38 x1 x10).f0) ((rd_T38 x1 x10).f1) ((rd_T38 x1 x10).f2) ((rd_T38 x1 x10).f3) ((rd_T38 x1 x10).f4)) else (spec_l12Left.j4 k x1 x6 x10 ((rd_T38 x1 x10).f3) x291000 x291001 x291002 x291003 x291004 ((rd_T38 x1 x10).f0) ((rd_T38 x1 x10).f1) ((rd_T38 x1 x10).f2) ((rd_T38 x1 x10).f3) ((rd_T38 x1 x10).f4))) else (some ((([] : List (List Int))), false)))) else (none)) else (some (x6, true))
def spec_l12Left.j4 : Nat → List (S38) → List (List Int) → Int → Int → Int → Int → Int → Int → List (S102) → List Int → Int → Int → Int → Int → Option ((List (List Int)) × Bool)
 | 0, _, _, _, _, _, _, _, _, _, _, _, _, _, _ => none
 | k + 1, x1, x6, x10, x12, x291000, x291001, x291002, x291003, x291004, x306000, x306001, x306002, x306003, x306004 => spec_l12Left.l3 k x1 x6 x10 x12 0 x291000 x291001 x291002 x291003 x291004 x306000 x306001 x306002 x306003 x306004
def spec_l12Left.l3 : Nat → List (S38) → List (List Int) → Int → Int → Int → Int → Int → Int → Int → List (S102) → List Int → Int → Int → Int → Int → Option ((List (List Int)) × Bool)
 | 0, _, _, _, _, _, _, _, _, _, _, _, _, _, _, _ => none
 | k + 1, x1, x6, x10, x12, x13, x291000, x291001, x291002, x291003, x291004, x306000, x306001, x306002, x306003, x306004 => if x13 < (x306000.length : Int) then (spec_l12Left.l4 k x1 x6 x10 x12 x13 x306001 x291000 x291001 x291002 x291003 x291004 x306000 x306001 x306002 x306003 x306004) else (spec_l12Left.l2 k x1 x6 (wrap64 (x10 + 1)) x291000 x291001 x291002 x291003 x291004)
def spec_l12Left.l4 : Nat → List (S38) → List (List Int) → Int → Int → Int → Int → Int → Int → Int → Int → List (S102) → List Int → Int → Int → Int → Int → Option ((List (List Int)) × Bool)
 | 0, _, _, _, _, _, _, _, _, _, _, _, _, _, _, _, _ => none
 | k + 1, x1, x6, x10, x12, x13, x14, x291000, x291001, x291002, x291003, x291004, x306000, x306001, x306002, x306003, x306004 => if x14 ≤ x306002 then (if 0 ≤ x13 then (if x13 < (x306000.length : Int) then (if 0 ≤ (rd x306000 x13) then (if (rd x306000 x13) < (x6.length : Int) then (if 0 ≤ x14 then (if x14 < ((rd_L3 x6 (rd x306000 x13)).length : Int) then (if (rd (rd_L3 x6 (rd x306000 x13)) x14) = x12 then (spec_l12Left.l4 k x1 (x6.set ((rd x306000 x13) : Int).toNat ((rd_L3 x6 (rd x306000 x13)).set (x14 : Int).toNat x306004)) x10 x12 x13 (wrap64 (x14 + 1)) x291000 x291001 x291002 x291003 x291004 x306000 x306001 x306002 x306003 x306004) else (some ((([] : List (List Int))), false))) else (none)) else (none)) else (none)) else (none)) else (none)) else (none)) else (spec_l12Left.l3 k x1 x6 x10 x12 (wrap64 (x13 + 1)) x291000 x291001 x291002 x291003 x291004 x306000 x306001 x306002 x306003 x306004)
end
def spec_l12Left.f (k : Nat) (a0_0 : Int) (a0_1 : Int) (a0_2 : Int) (a0_3 : Int) (l0_4 : List (S102)) (l1 : List (S38)) : Option ((List (List Int)) × Bool) := (some (([] : List (List Int)) : List (List Int))).bind fun y291 => ((spec_FrameOk.f k a0_0 a0_1 a0_2 a0_3 l0_4).bind fun t294 => (if t294 = true then (spec_l12Left.j0 k l1 y291 (decide ((l1.length : Int) > 40)) a0_0 a0_1 a0_2 a0_3 l0_4) else (spec_l12Left.j0 k l1 y291 true a0_0 a0_1 a0_2 a0_3 l0_4)))
def spec_l12Left.T30 : Bool × List (List Nat × List Nat) := (true, [([], []), ([], []), ([1], [1]), ([], []), ([2, 3], [2, 3]), ([4], [4]), ([0, 5], [0, 5]), ([6], [6]), ([], []), ([], []), ([9], [9]), ([7, 8, 0, 1, 2, 3, 4, 5, 6, 7, 8, 9, 10], [7, 8]), ([11, 10, 0, 1, 2, 3, 4, 5, 6, 7, 8, 9, 10], [10, 11])])
def spec_l12Left.B30 : List Nat := [0, 0, 2, 0, 14, 30, 63, 127, 0, 0, 512, 2047, 4095]
theorem spec_l12Left.tab30 : rtab .any (opsOf Try.f61 30) = spec_l12Left.T30 := by kernel_rfl
theorem spec_l12Left.bits30 : waitsOk spec_l12Left.T30.2 spec_l12Left.B30 = true := by kernel_rfl
set_option maxHeartbeats 8000000 in
set_option maxRecDepth 100000 in
theorem spec_l12Left.calls (k : Nat) (a0_0 : Int) (a0_1 : Int) (a0_2 : Int) (a0_3 : Int) (A0_4 : Option Addr) (c0_4 : Nat) (l0_4 : List (S102)) (A1 : Option Addr) (c1 : Nat) (l1 : List (S38)) (r1 : List (List Int)) (r2 : Bool) (w : World) (hr0_4 : Kd.C k102 w A0_4 l0_4.length l0_4) (hc0_4 : l0_4.length ≤ c0_4) (hr1 : Kd.C k38 w A1 l1.length l1) (hc1 : l1.length ≤ c1) (h : spec_l12Left.f k a0_0 a0_1 a0_2 a0_3 l0_4 l1 = some (r1, r2)) :
  Calls Try.prog 61 #[.agg #[.int .i64 a0_0, .int .i64 a0_1, .int .i64 a0_2, .int .i64 a0_3, .slice A0_4 l0_4.length c0_4], .slice A1 l1.length c1] w fun e w' => ∃ v0_ : Value, e = .returned (.tuple #[v0_, .bool r2]) ∧ Kd.S (Kd.slice 3 (Kd.int .i64)) 36 w' w.heap.size (fun _ => True) v0_ r1 ∧ Below w.heap.size w w' := by
 have hu26 := Try.underlying26
 have hu38 := Try.underlying38
 have HR0_4 := zA hr0_4
 have HC0_4 := zA hc0_4
 clear hr0_4 hc0_4
 have HR1 := zA hr1
 have HC1 := zA hc1
 clear hr1 hc1
 have HB := zA (Below.refl w.heap.size w)
 have H : ((some (([] : List (List Int)) : List (List Int))).bind fun y291 => ((spec_FrameOk.f k a0_0 a0_1 a0_2 a0_3 l0_4).bind fun t294 => (if t294 = true then (spec_l12Left.j0 k l1 y291 (decide ((l1.length : Int) > 40)) a0_0 a0_1 a0_2 a0_3 l0_4) else (spec_l12Left.j0 k l1 y291 true a0_0 a0_1 a0_2 a0_3 l0_4)))) = some (r1, r2) := h
 clear h
 obtain ⟨y291, hy291⟩ : ∃ y_ : List (List Int), y_ = (([] : List (List Int))) := ⟨_, rfl⟩
 replace H : ((spec_FrameOk.f k a0_0 a0_1 a0_2 a0_3 l0_4).bind fun t294 => (if t294 = true then (spec_l12Left.j0 k l1 y291 (decide ((l1.length : Int) > 40)) a0_0 a0_1 a0_2 a0_3 l0_4) else (spec_l12Left.j0 k l1 y291 true a0_0 a0_1 a0_2 a0_3 l0_4))) = some (r1, r2) := by first | (rw [hy291]; with_reducible exact H) | (have H2_ := (zS _ _).symm.trans H; rw [hy291]; with_reducible exact H2_) | (have H2_ := (zS _ _).symm.trans H; with_reducible exact H2_) | with_reducible exact H | (rw [hy291]; exact H) | exact H
 have Ny291 := zA hy291
 clear hy291
 have HC3 := zA H
 clear H
 go_enter Try.func61, Try.ntmps61
 go_upto_region 2 with (first | ((with_reducible refine gate_dst (N := 2) rfl ?_); (try (refine gate_guard (by rfl) ?_; dsimp only)); refine box_event ?hg (N := 2) ?hd (cs := #[.int .i64 a0_0, .int .i64 a0_1, .int .i64 a0_2, .int .i64 a0_3, .slice A0_4 l0_4.length c0_4]) (t := 26) ?hr ?_; (case hd => rfl); (case hg => rfl); (case hr => first | (go_simp; done) | (go_simp; rfl)); intro gb290 hg w4 hbox hb; have n0_ := zA (below_step (by repeat (first | (with_reducible first | exact HB.out | apply zC | apply zB | apply zF) | exact HB.out)) hb); have n1_ := zA (hbox); have n2_ := zA ((by rw [hg]; exact (zL (by repeat (first | (with_reducible first | exact HB.out | apply zC | apply zB | apply zF) | exact HB.out))) : w.heap.size ≤ gb290)); have n3_ := zA ((by rw [hg]; exact (zL (by repeat (first | (with_reducible first | exact HB.out | apply zC | apply zB | apply zF) | exact HB.out))) : w.heap.size ≤ gb290)); clear HB; have HB := n0_; have BK290 := n1_; have GW290 := n2_; have GE290 := n3_; clear n0_ n1_ n2_ n3_; clear hb hbox hg) | ((with_reducible refine gate_dst (N := 15) rfl ?_); (try (refine gate_guard (by rfl) ?_; dsimp only)); refine Kd.S_lit (Kd.slice 3 (Kd.int .i64)) _ 36 ?hg (N := 15) ?hd (xs := ([] : List (List Int))) (inner := []) (ok := fun _ => True) (okp := fun _ => True) ?hr ?hp (fun _ hk => hk) trivial (Below.refl _ _) (Nat.le_refl _) (by simp) ?_; (case hd => rfl); (case hg => rfl); (case hr => first | (go_simp; done) | (go_simp; rfl)); (case hp => exact (Reps.none _ _)); intro v292 w5 ho6 hb hg_ hnew_; clear hg_ hnew_; (first | rw [← Ny291.out] at ho6 | (simp only [Int.reduceToNat] at ho6; rw [← Ny291.out] at ho6)); have n0_ := zA (Kd.S_lower ho6 (zL (by repeat (first | (with_reducible first | exact HB.out | apply zC | apply zB | apply zF | refine zE ?_ GE290.out) | exact HB.out)))); have n1_ := zA (blk_below (g := gb290) (o := .cells #[.int .i64 a0_0, .int .i64 a0_1, .int .i64 a0_2, .int .i64 a0_3, .slice A0_4 l0_4.length c0_4] 26 (0, 0)) (by (with_reducible repeat (first | refine zG ?_ _ | refine zH ?_ | refine zD ?_ _)); exact BK290.out) hb); have n2_ := zA (below_step (by repeat (first | (with_reducible first | exact HB.out | apply zC | apply zB | apply zF | refine zE ?_ GE290.out) | exact HB.out)) hb); clear BK290; clear HB; have HO293 := n0_; have BK290 := n1_; have HB := n2_; clear n0_ n1_ n2_; clear hb ho6))
 (try simp only [Act.put, List.setIfInBounds_toArray, List.set_cons_zero, List.set_cons_succ])
 go_cut [23] (fun v23 wc => ∃ (kq : Nat) (x23_2 : Bool), v23 = .bool x23_2 ∧ Aside0 (spec_l12Left.j0 kq l1 y291 x23_2 a0_0 a0_1 a0_2 a0_3 l0_4 = some (r1, r2)) ∧ Aside0 (kq ≤ k) ∧ Aside0 (Kd.S (Kd.slice 3 (Kd.int .i64)) 36 wc w.heap.size (fun _ => True) v292 y291) ∧ Aside0 (wc.heap[gb290]? = some (.cells #[.int .i64 a0_0, .int .i64 a0_1, .int .i64 a0_2, .int .i64 a0_3, (.slice A0_4 l0_4.length c0_4)] 26 (0, 0))) ∧ Aside0 (Below w.heap.size w wc))
 case first =>
  have H := HC3.out
  clear HC3
  replace H := Option.bind_eq_some_iff.mp H
  obtain ⟨t294, A70, H⟩ := H
  replace H : (if t294 = true then (spec_l12Left.j0 k l1 y291 (decide ((l1.length : Int) > 40)) a0_0 a0_1 a0_2 a0_3 l0_4) else (spec_l12Left.j0 k l1 y291 true a0_0 a0_1 a0_2 a0_3 l0_4)) = some (r1, r2) := H
  have A7 := zA A70
  clear A70
  by_cases c8 : t294 = true
  ·subst c8
   have H1 : (spec_l12Left.j0 k l1 y291 (decide ((l1.length : Int) > 40)) a0_0 a0_1 a0_2 a0_3 l0_4) = some (r1, r2) := by rw [if_pos rfl] at H; exact H
   clear H
   have H := H1
   clear H1
   have H' := zA H
   clear H
   have hcz9_0 : w5.cell? ⟨gb290, 0, none⟩ = some (.int .i64 a0_0) := (zK BK290.out 0).trans rfl
   have hcz9_1 : w5.cell? ⟨gb290, 1, none⟩ = some (.int .i64 a0_1) := (zK BK290.out 1).trans rfl
   have hcz9_2 : w5.cell? ⟨gb290, 2, none⟩ = some (.int .i64 a0_2) := (zK BK290.out 2).trans rfl
   have hcz9_3 : w5.cell? ⟨gb290, 3, none⟩ = some (.int .i64 a0_3) := (zK BK290.out 3).trans rfl
   have hcz9_4 : w5.cell? ⟨gb290, 4, none⟩ = some (.slice A0_4 l0_4.length c0_4) := (zK BK290.out 4).trans rfl
   have hfz9_0 := zJ BK290.out 0
   have hfz9_1 := zJ BK290.out 1
   have hfz9_2 := zJ BK290.out 2
   have hfz9_3 := zJ BK290.out 3
   have hfz9_4 := zJ BK290.out 4
   go_wp2_with (first | ((with_reducible refine gate_callee (f := 12) rfl ?_); refine goesL_ (some 17) rfl rfl Try.func12 (by kernel_rfl) rfl #[.agg #[.int .i64 a0_0, .int .i64 a0_1, .int .i64 a0_2, .int .i64 a0_3, .slice A0_4 l0_4.length c0_4]] rfl (by (try simp only [zU, zV, zW]); first | done | rfl | (simp only [zR, zQ]; rfl)) ?_; (with_reducible refine (spec_FrameOk.calls k a0_0 a0_1 a0_2 a0_3 _ _ l0_4 true _ ?side1 ?side2 A7.out).mono ?_); (case side1 => repeat (first | exact (Kd.C_below HR0_4.out HB.out) | (with_reducible refine yN ?_ _) | (with_reducible refine yL ?_ _) | (with_reducible refine yM ?_))); (case side2 => exact HC0_4.out); rintro e w10 ⟨rfl, hb⟩; refine ⟨_, rfl, ?_⟩; have n0_ := zA (Kd.S_below (by (with_reducible repeat (first | apply yE | apply yF | apply yG)); exact HO293.out) hb); have n1_ := zA (blk_below (g := gb290) (o := .cells #[.int .i64 a0_0, .int .i64 a0_1, .int .i64 a0_2, .int .i64 a0_3, .slice A0_4 l0_4.length c0_4] 26 (0, 0)) (by (with_reducible repeat (first | refine zG ?_ _ | refine zH ?_ | refine zD ?_ _)); exact BK290.out) hb); have n2_ := zA (below_step (by repeat (first | (with_reducible first | exact HB.out | apply zC | apply zB | apply zF | refine zE ?_ GE290.out) | exact HB.out)) hb); clear HO293; clear BK290; clear HB; have HO293 := n0_; have BK290 := n1_; have HB := n2_; clear n0_ n1_ n2_; (try clear hb); (try clear hb2); (try clear hk); (try clear hi)))
   go_meet
   case rel => exact ⟨_, (decide ((l1.length : Int) > 40)), (by first | rfl | (simp; done) | (simp [*]; done)), H', ⟨by first | omega | exact Nat.le_refl _⟩, ⟨by (with_reducible repeat (first | apply yE | apply yF | apply yG)); exact HO293.out⟩, ⟨by (with_reducible repeat (first | refine zG ?_ _ | refine zH ?_ | refine zD ?_ _)); exact BK290.out⟩, ⟨by repeat (first | (with_reducible first | exact HB.out | apply zC | apply zB | apply zF | refine zE ?_ GE290.out) | exact HB.out)⟩⟩
  ·replace c8 := Bool.eq_false_iff.mpr c8
   subst c8
   have H1 : (spec_l12Left.j0 k l1 y291 true a0_0 a0_1 a0_2 a0_3 l0_4) = some (r1, r2) := by rw [if_neg (show ¬ (false = true) by decide)] at H; exact H
   clear H
   have H := H1
   clear H1
   have H' := zA H
   clear H
   have hcz11_0 : w5.cell? ⟨gb290, 0, none⟩ = some (.int .i64 a0_0) := (zK BK290.out 0).trans rfl
   have hcz11_1 : w5.cell? ⟨gb290, 1, none⟩ = some (.int .i64 a0_1) := (zK BK290.out 1).trans rfl
   have hcz11_2 : w5.cell? ⟨gb290, 2, none⟩ = some (.int .i64 a0_2) := (zK BK290.out 2).trans rfl
   have hcz11_3 : w5.cell? ⟨gb290, 3, none⟩ = some (.int .i64 a0_3) := (zK BK290.out 3).trans rfl
   have hcz11_4 : w5.cell? ⟨gb290, 4, none⟩ = some (.slice A0_4 l0_4.length c0_4) := (zK BK290.out 4).trans rfl
   have hfz11_0 := zJ BK290.out 0
   have hfz11_1 := zJ BK290.out 1
   have hfz11_2 := zJ BK290.out 2
   have hfz11_3 := zJ BK290.out 3
   have hfz11_4 := zJ BK290.out 4
   go_wp2_with (first | ((with_reducible refine gate_callee (f := 12) rfl ?_); refine goesL_ (some 17) rfl rfl Try.func12 (by kernel_rfl) rfl #[.agg #[.int .i64 a0_0, .int .i64 a0_1, .int .i64 a0_2, .int .i64 a0_3, .slice A0_4 l0_4.length c0_4]] rfl (by (try simp only [zU, zV, zW]); first | done | rfl | (simp only [zR, zQ]; rfl)) ?_; (with_reducible refine (spec_FrameOk.calls k a0_0 a0_1 a0_2 a0_3 _ _ l0_4 false _ ?side1 ?side2 A7.out).mono ?_); (case side1 => repeat (first | exact (Kd.C_below HR0_4.out HB.out) | (with_reducible refine yN ?_ _) | (with_reducible refine yL ?_ _) | (with_reducible refine yM ?_))); (case side2 => exact HC0_4.out); rintro e w12 ⟨rfl, hb⟩; refine ⟨_, rfl, ?_⟩; have n0_ := zA (Kd.S_below (by (with_reducible repeat (first | apply yE | apply yF | apply yG)); exact HO293.out) hb); have n1_ := zA (blk_below (g := gb290) (o := .cells #[.int .i64 a0_0, .int .i64 a0_1, .int .i64 a0_2, .int .i64 a0_3, .slice A0_4 l0_4.length c0_4] 26 (0, 0)) (by (with_reducible repeat (first | refine zG ?_ _ | refine zH ?_ | refine zD ?_ _)); exact BK290.out) hb); have n2_ := zA (below_step (by repeat (first | (with_reducible first | exact HB.out | apply zC | apply zB | apply zF | refine zE ?_ GE290.out) | exact HB.out)) hb); clear HO293; clear BK290; clear HB; have HO293 := n0_; have BK290 := n1_; have HB := n2_; clear n0_ n1_ n2_; (try clear hb); (try clear hb2); (try clear hk); (try clear hi)))
   go_meet
   case rel => exact ⟨_, (true), (by first | rfl | (simp; done) | (simp [*]; done)), H', ⟨by first | omega | exact Nat.le_refl _⟩, ⟨by (with_reducible repeat (first | apply yE | apply yF | apply yG)); exact HO293.out⟩, ⟨by (with_reducible repeat (first | refine zG ?_ _ | refine zH ?_ | refine zD ?_ _)); exact BK290.out⟩, ⟨by repeat (first | (with_reducible first | exact HB.out | apply zC | apply zB | apply zF | refine zE ?_ GE290.out) | exact HB.out)⟩⟩
 case rest =>
  clear HC3
  try clear c1
  try clear p2
  try clear c6
  try clear c8
  try clear c12
  try clear hcz11_0
  try clear hcz11_1
  try clear hcz11_2
  try clear hcz11_3
  try clear hcz11_4
  try clear hcz9_0
  try clear hcz9_1
  try clear hcz9_2
  try clear hcz9_3
  try clear hcz9_4
  try clear hfz11_0
  try clear hfz11_1
  try clear hfz11_2
  try clear hfz11_3
  try clear hfz11_4
  try clear hfz9_0
  try clear hfz9_1
  try clear hfz9_2
  try clear hfz9_3
  try clear hfz9_4
  obtain ⟨kq, x23_2, rfl, HA, HJ2, HO_6, BK290, HB⟩ := hcut
  cases kq with
  | zero => exact absurd HA.out (by simp [spec_l12Left.j0])
  | succ kj2 =>
   have H := HA.out
   clear HA
   simp only [spec_l12Left.j0] at H
   by_cases c13 : x23_2 = true
   ·subst c13
    have H1 : (some (y291, false)) = some (r1, r2) := by rw [if_pos rfl] at H; exact H
    clear H
    have H := H1
    clear H1
    simp only [Option.some.injEq, Prod.mk.injEq] at H
    obtain ⟨rfl, rfl⟩ := H
    go_wp2
    go_ret2
    exact ⟨_, by first | rfl | (simp [errW_none, errW_some] <;> rfl) | (simp [*, errW_none, errW_some] <;> rfl), by (with_reducible repeat (first | apply yE | apply yF | apply yG)); exact HO_6.out, by repeat (first | (with_reducible first | exact HB.out | apply zC | apply zB | apply zF | refine zE ?_ GE290.out) | exact HB.out)⟩
   ·replace c13 := Bool.eq_false_iff.mpr c13
    subst c13
    have H1 : (spec_l12Left.l0 kj2 l1 y291 0 a0_0 a0_1 a0_2 a0_3 l0_4) = some (r1, r2) := by rw [if_neg (show ¬ (false = true) by decide)] at H; exact H
    clear H
    have H := H1
    clear H1
    have H' := zA H
    clear H
    go_wp2
    go_loopg [6, 7] kj2 (fun kq v6 v7 w' => ∃ (x6_2 : List (List Int)) (x7_2 : Int), v7 = .int .i64 x7_2 ∧ Aside0 (spec_l12Left.l0 kq l1 x6_2 x7_2 a0_0 a0_1 a0_2 a0_3 l0_4 = some (r1, r2)) ∧ Aside0 (kq ≤ kj2) ∧ Aside0 (Kd.S (Kd.slice 3 (Kd.int .i64)) 36 w' w.heap.size (fun _ => True) v6 x6_2) ∧ Aside0 (w'.heap[gb290]? = some (.cells #[.int .i64 a0_0, .int .i64 a0_1, .int .i64 a0_2, .int .i64 a0_3, (.slice A0_4 l0_4.length c0_4)] 26 (0, 0))) ∧ Aside0 (Below w.heap.size w w'))
    case atStart => exact ⟨(y291), (0), (by first | rfl | (simp; done) | (simp [*]; done)), H', ⟨Nat.le_refl _⟩, ⟨by (with_reducible repeat (first | apply yE | apply yF | apply yG)); exact HO_6.out⟩, ⟨by (with_reducible repeat (first | refine zG ?_ _ | refine zH ?_ | refine zD ?_ _)); exact BK290.out⟩, ⟨by repeat (first | (with_reducible first | exact HB.out | apply zC | apply zB | apply zF | refine zE ?_ GE290.out) | exact HB.out)⟩⟩
    case round =>
     clear H'
     try clear c1
     try clear p2
     try clear c6
     try clear c8
     try clear c12
     try clear c13
     try clear hcz11_0
     try clear hcz11_1
     try clear hcz11_2
     try clear hcz11_3
     try clear hcz11_4
     try clear hcz9_0
     try clear hcz9_1
     try clear hcz9_2
     try clear hcz9_3
     try clear hcz9_4
     try clear hfz11_0
     try clear hfz11_1
     try clear hfz11_2
     try clear hfz11_3
     try clear hfz11_4
     try clear hfz9_0
     try clear hfz9_1
     try clear hfz9_2
     try clear hfz9_3
     try clear hfz9_4
     try clear p2
     obtain ⟨x6_2, x7_2, rfl, HA, HK2, HO_6, BK290, HB⟩ := hrel
     cases gk with
     | zero => exact absurd HA.out (by simp [spec_l12Left.l0])
     | succ k2 =>
      have H := HA.out
      clear HA
      simp only [spec_l12Left.l0] at H
      by_cases c14 : x7_2 < (l0_4.length : Int)
      ·rw [if_pos c14] at H
       have c14b0 : decide (x7_2 < (l0_4.length : Int)) = true := zT c14
       clear c14
       obtain ⟨y295, hy295⟩ : ∃ y_ : List Int, y_ = (([] : List Int)) := ⟨_, rfl⟩
       replace H : (spec_l12Left.l1 k2 l1 x6_2 x7_2 y295 0 a0_0 a0_1 a0_2 a0_3 l0_4) = some (r1, r2) := by first | (rw [hy295]; with_reducible exact H) | (have H2_ := (zS _ _).symm.trans H; rw [hy295]; with_reducible exact H2_) | (have H2_ := (zS _ _).symm.trans H; with_reducible exact H2_) | with_reducible exact H | (rw [hy295]; exact H) | exact H
       have Ny295 := zA hy295
       clear hy295
       have H' := zA H
       clear H
       have hcz15_0 : wr.cell? ⟨gb290, 0, none⟩ = some (.int .i64 a0_0) := (zK BK290.out 0).trans rfl
       have hcz15_1 : wr.cell? ⟨gb290, 1, none⟩ = some (.int .i64 a0_1) := (zK BK290.out 1).trans rfl
       have hcz15_2 : wr.cell? ⟨gb290, 2, none⟩ = some (.int .i64 a0_2) := (zK BK290.out 2).trans rfl
       have hcz15_3 : wr.cell? ⟨gb290, 3, none⟩ = some (.int .i64 a0_3) := (zK BK290.out 3).trans rfl
       have hcz15_4 : wr.cell? ⟨gb290, 4, none⟩ = some (.slice A0_4 l0_4.length c0_4) := (zK BK290.out 4).trans rfl
       have hfz15_0 := zJ BK290.out 0
       have hfz15_1 := zJ BK290.out 1
       have hfz15_2 := zJ BK290.out 2
       have hfz15_3 := zJ BK290.out 3
       have hfz15_4 := zJ BK290.out 4
       go_wp2_with (first | ((with_reducible refine gate_dst (N := 32) rfl ?_); (try (refine gate_guard (by rfl) ?_; dsimp only)); refine Kd.R_lit (Kd.int .i64) _ 3 ?hg (N := 32) ?hd (xs := ([] : List Int)) (inner := []) (ok := fun _ => True) (okp := fun _ => True) ?hr ?hp (fun _ hk => hk) trivial (Below.refl _ _) (Nat.le_refl _) (by simp) ?_; (case hd => rfl); (case hg => rfl); (case hr => first | (go_simp; done) | (go_simp; rfl)); (case hp => exact (Reps.none _ _)); intro v296 w16 ho17 hb hg_ hnew_; clear hg_ hnew_; (first | rw [← Ny295.out] at ho17 | (simp only [Int.reduceToNat] at ho17; rw [← Ny295.out] at ho17)); have n0_ := zA (Kd.S_elder' (by (with_reducible repeat (first | apply yE | apply yF | apply yG)); exact HO_6.out) (Kd.R_base ho17) hb); have n1_ := zA (Kd.R_lower ho17 (zL (by repeat (first | (with_reducible first | exact HB.out | apply zC | apply zB | apply zF | refine zE ?_ GE290.out) | exact HB.out)))); have n2_ := zA (blk_below (g := gb290) (o := .cells #[.int .i64 a0_0, .int .i64 a0_1, .int .i64 a0_2, .int .i64 a0_3, .slice A0_4 l0_4.length c0_4] 26 (0, 0)) (by (with_reducible repeat (first | refine zG ?_ _ | refine zH ?_ | refine zD ?_ _)); exact BK290.out) hb); have n3_ := zA (below_step (by repeat (first | (with_reducible first | exact HB.out | apply zC | apply zB | apply zF | refine zE ?_ GE290.out) | exact HB.out)) hb); clear HO_6; clear BK290; clear HB; have HO_6 := n0_; have HO297 := n1_; have BK290 := n2_; have HB := n3_; clear n0_ n1_ n2_ n3_; clear hb ho17))
       go_loopg [8, 9] k2 (fun kq v8 v9 w' => ∃ (x8_3 : List Int) (x9_3 : Int), v9 = .int .i64 x9_3 ∧ Aside0 (spec_l12Left.l1 kq l1 x6_2 x7_2 x8_3 x9_3 a0_0 a0_1 a0_2 a0_3 l0_4 = some (r1, r2)) ∧ Aside0 (kq ≤ k2) ∧ Aside0 (Kd.S (Kd.slice 3 (Kd.int .i64)) 36 w' w.heap.size (fun k_ => some k_ ≠ (v8 : Value).ownBlock) u6 x6_2) ∧ Aside0 (Kd.R (Kd.int .i64) 3 w' w.heap.size (fun _ => True) v8 x8_3) ∧ Aside0 (w'.heap[gb290]? = some (.cells #[.int .i64 a0_0, .int .i64 a0_1, .int .i64 a0_2, .int .i64 a0_3, (.slice A0_4 l0_4.length c0_4)] 26 (0, 0))) ∧ Aside0 (Below w.heap.size w w'))
       case atStart => exact ⟨(y295), (0), (by first | rfl | (simp; done) | (simp [*]; done)), H', ⟨Nat.le_refl _⟩, ⟨by (with_reducible repeat (first | apply yE | apply yF | apply yG)); exact yH HO_6.out (fun _ hk => hk.2)⟩, ⟨by (with_reducible repeat (first | apply zN | apply zM | apply zO)); exact HO297.out⟩, ⟨by (with_reducible repeat (first | refine zG ?_ _ | refine zH ?_ | refine zD ?_ _)); exact BK290.out⟩, ⟨by repeat (first | (with_reducible first | exact HB.out | apply zC | apply zB | apply zF | refine zE ?_ GE290.out) | exact HB.out)⟩⟩
       case round =>
        clear H'
        try clear c1
        try clear p2
        try clear c6
        try clear c8
        try clear c12
        try clear c13
        try clear c14
        try clear c14b0
        try clear hcz11_0
        try clear hcz11_1
        try clear hcz11_2
        try clear hcz11_3
        try clear hcz11_4
        try clear hcz15_0
        try clear hcz15_1
        try clear hcz15_2
        try clear hcz15_3
        try clear hcz15_4
        try clear hcz9_0
        try clear hcz9_1
        try clear hcz9_2
        try clear hcz9_3
        try clear hcz9_4
        try clear hfz11_0
        try clear hfz11_1
        try clear hfz11_2
        try clear hfz11_3
        try clear hfz11_4
        try clear hfz15_0
        try clear hfz15_1
        try clear hfz15_2
        try clear hfz15_3
        try clear hfz15_4
        try clear hfz9_0
        try clear hfz9_1
        try clear hfz9_2
        try clear hfz9_3
        try clear hfz9_4
        try clear p2
        obtain ⟨x8_3, x9_3, rfl, HA, HK3, HO_6, HO_8, BK290, HB⟩ := hrel
        cases gk with
        | zero => exact absurd HA.out (by simp [spec_l12Left.l1])
        | succ k3 =>
         have H := HA.out
         clear HA
         simp only [spec_l12Left.l1] at H
         by_cases c18 : x9_3 < 64
         ·rw [if_pos c18] at H
          have c18b0 : decide (x9_3 < 64) = true := zT c18
          clear c18
          by_cases c19 : x8_3.length < 17592186044416
          ·rw [if_pos c19] at H
           have LMc19 := zA c19
           clear c19
           obtain ⟨y298, hy298⟩ : ∃ y_ : List Int, y_ = (x8_3 ++ [(-1)]) := ⟨_, rfl⟩
           replace H : (spec_l12Left.l1 k3 l1 x6_2 x7_2 y298 (wrap64 (x9_3 + 1)) a0_0 a0_1 a0_2 a0_3 l0_4) = some (r1, r2) := by first | (rw [hy298]; with_reducible exact H) | (have H2_ := (zS _ _).symm.trans H; rw [hy298]; with_reducible exact H2_) | (have H2_ := (zS _ _).symm.trans H; with_reducible exact H2_) | with_reducible exact H | (rw [hy298]; exact H) | exact H
           have Ny298 := zA hy298
           clear hy298
           have H' := zA H
           clear H
           go_wp2_with (first | ((with_reducible refine gate_builtin (b := .append) (xs := #[.tmp 37, .tmp 38]) rfl ?_); (try (refine gate_guard (by rfl) ?_; dsimp only)); at_builtin; refine Kd.R_append (Kd.int .i64) (w0 := w) w.heap.size rfl (.tmp 37) (.tmp 38) 36 3 (.int .i64 0) 8 rfl Try.underlying36 info3 rfl (by decide) (by omega) u8 x8_3 (-1) [.int .i64 (-1)] (fun _ => True) (fun _ => False) rfl rfl ?aP (fun _ hk => hk.elim) ?aF ?aO ?aB ?aS ?aL ?_; (case aP => exact rfl); (case aB => exact (by repeat (first | (with_reducible first | exact HB.out | apply zC | apply zB | apply zF | refine zE ?_ GE290.out) | exact HB.out))); (case aF => exact (fun _ _ => trivial)); (case aO => exact (by (with_reducible repeat (first | apply zN | apply zM | apply zO)); exact HO_8.out)); (case aS => exact (zL (by repeat (first | (with_reducible first | exact HB.out | apply zC | apply zB | apply zF | refine zE ?_ GE290.out) | exact HB.out)))); (case aL => have := LMc19.out; omega); intro v299 w20 ho hb hg hat; rw [← Ny298.out] at ho; have n0_ := zA (Kd.S_after (ok := (fun _ => True)) (by (with_reducible repeat (first | apply yE | apply yF | apply yG)); exact yH HO_6.out (fun _ hk => ⟨trivial, hk⟩)) hg hat); have n1_ := zA (blk_grown (g := gb290) (o := .cells #[.int .i64 a0_0, .int .i64 a0_1, .int .i64 a0_2, .int .i64 a0_3, .slice A0_4 l0_4.length c0_4] 26 (0, 0)) (by (with_reducible repeat (first | refine zG ?_ _ | refine zH ?_ | refine zD ?_ _)); exact BK290.out) hg (Kd.R_ne HO_8.out BK290.out (by decide))); have n2_ := zA (hb); have n3_ := zA (ho); clear HO_6; clear BK290; clear HB; clear HO_8; have HO_6 := n0_; have BK290 := n1_; have HB := n2_; have HO300 := n3_; clear n0_ n1_ n2_ n3_; clear ho hb hg hat))
           go_roundg k3
           case measure => have := HJ2.out; have := HK2.out; have := HK3.out; omega
           case rel => exact ⟨(y298), (wrap64 (x9_3 + 1)), (by first | rfl | (simp; done) | (simp [*]; done)), H', ⟨by have := HJ2.out; have := HK2.out; have := HK3.out; omega⟩, ⟨by (with_reducible repeat (first | apply yE | apply yF | apply yG)); exact yH HO_6.out (fun _ hk => hk.2)⟩, ⟨by (with_reducible repeat (first | apply zN | apply zM | apply zO)); exact HO300.out⟩, ⟨by (with_reducible repeat (first | refine zG ?_ _ | refine zH ?_ | refine zD ?_ _)); exact BK290.out⟩, ⟨by repeat (first | (with_reducible first | exact HB.out | apply zC | apply zB | apply zF | refine zE ?_ GE290.out) | exact HB.out)⟩⟩
          ·rw [if_neg c19] at H
           exact absurd H (by simp)
         ·rw [if_neg c18] at H
          have c18b0 : decide (x9_3 < 64) = false := decide_eq_false c18
          clear c18
          by_cases c21 : x6_2.length < 5864062014805
          ·rw [if_pos c21] at H
           have LMc21 := zA c21
           clear c21
           obtain ⟨y301, hy301⟩ : ∃ y_ : List (List Int), y_ = (x6_2 ++ [x8_3]) := ⟨_, rfl⟩
           replace H : (spec_l12Left.l0 k3 l1 y301 (wrap64 (x7_2 + 1)) a0_0 a0_1 a0_2 a0_3 l0_4) = some (r1, r2) := by first | (rw [hy301]; with_reducible exact H) | (have H2_ := (zS _ _).symm.trans H; rw [hy301]; with_reducible exact H2_) | (have H2_ := (zS _ _).symm.trans H; with_reducible exact H2_) | with_reducible exact H | (rw [hy301]; exact H) | exact H
           have Ny301 := zA hy301
           clear hy301
           have H' := zA H
           clear H
           obtain ⟨Ao23, co23, eo23⟩ := Kd.R_slice HO_8.out
           subst eo23
           go_wp2_with (first | ((with_reducible refine gate_builtin (b := .append) (xs := #[.tmp 40, .tmp 42]) rfl ?_); (try (refine gate_guard (by rfl) ?_; dsimp only)); at_builtin; refine Kd.S_append (Kd.slice 3 (Kd.int .i64)) (w0 := w) w.heap.size rfl (.tmp 40) (.tmp 42) 34 36 (.slice none 0 0) 24 rfl Try.underlying34 info36 rfl (by decide) (by omega) u6 x6_2 x8_3 [.slice Ao23 x8_3.length co23] (fun _ => True) (fun k_ => some k_ = (.slice Ao23 x8_3.length co23 : Value).ownBlock) rfl rfl ?aP (fun k_ hk_ => ((zP (ok' := fun k_ => ((fun _ => True)) k_ ∧ some k_ ≠ (u6 : Value).ownBlock) (Kd.R_apart' (HO_8.out) (Kd.S_typed HO_6.out) (by decide)) (fun k_ hk => ⟨trivial, hk.2⟩))).1 k_ hk_.symm) ?aF ?aO ?aB ?aS ?aL ?_; (case aP => exact Kd.M_row (zP (Kd.R_tight rfl (zP (ok' := fun k_ => ((fun _ => True)) k_ ∧ some k_ ≠ (u6 : Value).ownBlock) (Kd.R_apart' (HO_8.out) (Kd.S_typed HO_6.out) (by decide)) (fun k_ hk => ⟨trivial, hk.2⟩))) (fun _ h_ => h_))); (case aB => exact (by repeat (first | (with_reducible first | exact HB.out | apply zC | apply zB | apply zF | refine zE ?_ GE290.out) | exact HB.out))); (case aF => exact (fun _ _ => trivial)); (case aO => exact (by (with_reducible repeat (first | apply yE | apply yF | apply yG)); exact yH HO_6.out (fun k_ hk => ⟨trivial, fun e_ => hk e_⟩))); (case aS => exact (zL (by repeat (first | (with_reducible first | exact HB.out | apply zC | apply zB | apply zF | refine zE ?_ GE290.out) | exact HB.out)))); (case aL => have := LMc21.out; omega); intro v302 w22 ho hb hg hat; rw [← Ny301.out] at ho; have n0_ := zA (blk_grown (g := gb290) (o := .cells #[.int .i64 a0_0, .int .i64 a0_1, .int .i64 a0_2, .int .i64 a0_3, .slice A0_4 l0_4.length c0_4] 26 (0, 0)) (by (with_reducible repeat (first | refine zG ?_ _ | refine zH ?_ | refine zD ?_ _)); exact BK290.out) hg (Kd.S_ne HO_6.out BK290.out (by decide))); have n1_ := zA (hb); have n2_ := zA (ho); clear BK290; clear HB; clear HO_6; clear HO_8; have BK290 := n0_; have HB := n1_; have HO303 := n2_; clear n0_ n1_ n2_; clear ho hb hg hat))
           go_roundg k3
           case measure => have := HJ2.out; have := HK2.out; have := HK3.out; omega
           case rel => exact ⟨(y301), (wrap64 (x7_2 + 1)), (by first | rfl | (simp; done) | (simp [*]; done)), H', ⟨by have := HJ2.out; have := HK2.out; have := HK3.out; omega⟩, ⟨by (with_reducible repeat (first | apply yE | apply yF | apply yG)); exact HO303.out⟩, ⟨by (with_reducible repeat (first | refine zG ?_ _ | refine zH ?_ | refine zD ?_ _)); exact BK290.out⟩, ⟨by repeat (first | (with_reducible first | exact HB.out | apply zC | apply zB | apply zF | refine zE ?_ GE290.out) | exact HB.out)⟩⟩
          ·rw [if_neg c21] at H
           exact absurd H (by simp)
      ·rw [if_neg c14] at H
       have c14b0 : decide (x7_2 < (l0_4.length : Int)) = false := decide_eq_false c14
       clear c14
       have H' := zA H
       clear H
       have hcz24_0 : wr.cell? ⟨gb290, 0, none⟩ = some (.int .i64 a0_0) := (zK BK290.out 0).trans rfl
       have hcz24_1 : wr.cell? ⟨gb290, 1, none⟩ = some (.int .i64 a0_1) := (zK BK290.out 1).trans rfl
       have hcz24_2 : wr.cell? ⟨gb290, 2, none⟩ = some (.int .i64 a0_2) := (zK BK290.out 2).trans rfl
       have hcz24_3 : wr.cell? ⟨gb290, 3, none⟩ = some (.int .i64 a0_3) := (zK BK290.out 3).trans rfl
       have hcz24_4 : wr.cell? ⟨gb290, 4, none⟩ = some (.slice A0_4 l0_4.length c0_4) := (zK BK290.out 4).trans rfl
       have hfz24_0 := zJ BK290.out 0
       have hfz24_1 := zJ BK290.out 1
       have hfz24_2 := zJ BK290.out 2
       have hfz24_3 := zJ BK290.out 3
       have hfz24_4 := zJ BK290.out 4
       go_wp2
       go_loopg [10] k2 (fun kq v10 w' => ∃ (x6_3 : List (List Int)) (x10_3 : Int), v10 = .int .i64 x10_3 ∧ Aside0 (spec_l12Left.l2 kq l1 x6_3 x10_3 a0_0 a0_1 a0_2 a0_3 l0_4 = some (r1, r2)) ∧ Aside0 (kq ≤ k2) ∧ Aside0 (Kd.S (Kd.slice 3 (Kd.int .i64)) 36 w' w.heap.size (fun _ => True) u6 x6_3) ∧ Aside0 (w'.heap[gb290]? = some (.cells #[.int .i64 a0_0, .int .i64 a0_1, .int .i64 a0_2, .int .i64 a0_3, (.slice A0_4 l0_4.length c0_4)] 26 (0, 0))) ∧ Aside0 (Below w.heap.size w w'))
       case atStart => exact ⟨(x6_2), (0), (by first | rfl | (simp; done) | (simp [*]; done)), H', ⟨Nat.le_refl _⟩, ⟨by (with_reducible repeat (first | apply yE | apply yF | apply yG)); exact HO_6.out⟩, ⟨by (with_reducible repeat (first | refine zG ?_ _ | refine zH ?_ | refine zD ?_ _)); exact BK290.out⟩, ⟨by repeat (first | (with_reducible first | exact HB.out | apply zC | apply zB | apply zF | refine zE ?_ GE290.out) | exact HB.out)⟩⟩
       case round =>
        clear H'
        try clear c1
        try clear c2
        try clear p2
        try clear c6
        try clear p6
        try clear c8
        try clear c12
        try clear c13
        try clear c14
        try clear c14b0
        try clear c18
        try clear c18b0
        try clear c19
        try clear c21
        try clear hcz11_0
        try clear hcz11_1
        try clear hcz11_2
        try clear hcz11_3
        try clear hcz11_4
        try clear hcz15_0
        try clear hcz15_1
        try clear hcz15_2
        try clear hcz15_3
        try clear hcz15_4
        try clear hcz24_0
        try clear hcz24_1
        try clear hcz24_2
        try clear hcz24_3
        try clear hcz24_4
        try clear hcz9_0
        try clear hcz9_1
        try clear hcz9_2
        try clear hcz9_3
        try clear hcz9_4
        try clear hfz11_0
        try clear hfz11_1
        try clear hfz11_2
        try clear hfz11_3
        try clear hfz11_4
        try clear hfz15_0
        try clear hfz15_1
        try clear hfz15_2
        try clear hfz15_3
        try clear hfz15_4
        try clear hfz24_0
        try clear hfz24_1
        try clear hfz24_2
        try clear hfz24_3
        try clear hfz24_4
        try clear hfz9_0
        try clear hfz9_1
        try clear hfz9_2
        try clear hfz9_3
        try clear hfz9_4
        try clear p2
        obtain ⟨x6_3, x10_3, rfl, HA, HK3, HO_6, BK290, HB⟩ := hrel
        cases gk with
        | zero => exact absurd HA.out (by simp [spec_l12Left.l2])
        | succ k3 =>
         have H := HA.out
         clear HA
         simp only [spec_l12Left.l2] at H
         by_cases c25 : x10_3 < (l1.length : Int)
         ·rw [if_pos c25] at H
          have c25b0 : decide (x10_3 < (l1.length : Int)) = true := zT c25
          clear c25
          by_cases c26 : 0 ≤ x10_3
          ·rw [if_pos c26] at H
           have c26b0 : decide (0 ≤ x10_3) = true := zT c26
           clear c26
           replace H := Option.bind_eq_some_iff.mp H
           obtain ⟨t306, A270, H⟩ := H
           replace H : (if t306 = true then (if ((rd_T38 l1 x10_3).f3) = 0 then (spec_l12Left.j4 k3 l1 x6_3 x10_3 (-1) a0_0 a0_1 a0_2 a0_3 l0_4 ((rd_T38 l1 x10_3).f0) ((rd_T38 l1 x10_3).f1) ((rd_T38 l1 x10_3).f2) ((rd_T38 l1 x10_3).f3) ((rd_T38 l1 x10_3).f4)) else (spec_l12Left.j4 k3 l1 x6_3 x10_3 ((rd_T38 l1 x10_3).f3) a0_0 a0_1 a0_2 a0_3 l0_4 ((rd_T38 l1 x10_3).f0) ((rd_T38 l1 x10_3).f1) ((rd_T38 l1 x10_3).f2) ((rd_T38 l1 x10_3).f3) ((rd_T38 l1 x10_3).f4))) else (some ((([] : List (List Int))), false))) = some (r1, r2) := H
           have A27 := zA A270
           clear A270
           by_cases c28 : t306 = true
           ·subst c28
            have H1 : (if ((rd_T38 l1 x10_3).f3) = 0 then (spec_l12Left.j4 k3 l1 x6_3 x10_3 (-1) a0_0 a0_1 a0_2 a0_3 l0_4 ((rd_T38 l1 x10_3).f0) ((rd_T38 l1 x10_3).f1) ((rd_T38 l1 x10_3).f2) ((rd_T38 l1 x10_3).f3) ((rd_T38 l1 x10_3).f4)) else (spec_l12Left.j4 k3 l1 x6_3 x10_3 ((rd_T38 l1 x10_3).f3) a0_0 a0_1 a0_2 a0_3 l0_4 ((rd_T38 l1 x10_3).f0) ((rd_T38 l1 x10_3).f1) ((rd_T38 l1 x10_3).f2) ((rd_T38 l1 x10_3).f3) ((rd_T38 l1 x10_3).f4))) = some (r1, r2) := by rw [if_pos rfl] at H; exact H
            clear H
            have H := H1
            clear H1
            have HC29 := zA H
            clear H
            have p304 : 0 ≤ (x10_3 : Int) := zI (by first | (with_reducible assumption) | assumption)
            have q304 : x10_3 < (l1.length : Int) := zI (by first | (with_reducible assumption) | assumption)
            obtain ⟨ad304, A304_0, c304_0, e304, hx304_0, hx304_1, hx304_2, hx304_3, hx304_4, hl304_0, hi304_0⟩ := at_T38 HR1.out x10_3 p304 q304
            cases e304
            replace hx304_0 := (HB.out.cell (World.block_lt_of_cell? w _ hx304_0)).trans hx304_0
            replace hx304_1 := (HB.out.cell (World.block_lt_of_cell? w _ hx304_1)).trans hx304_1
            replace hx304_2 := (HB.out.cell (World.block_lt_of_cell? w _ hx304_2)).trans hx304_2
            replace hx304_3 := (HB.out.cell (World.block_lt_of_cell? w _ hx304_3)).trans hx304_3
            replace hx304_4 := (HB.out.cell (World.block_lt_of_cell? w _ hx304_4)).trans hx304_4
            have HR304_0 := zA hi304_0
            have HC304_0 := zA hl304_0
            clear hi304_0 hl304_0
            replace p304 := eq_true p304
            replace q304 := eq_true q304
            go_upto_if 62 with (first | ((with_reducible refine gate_dst (N := 11) rfl ?_); (try (refine gate_guard (by rfl) ?_; dsimp only)); refine box_event ?hg (N := 11) ?hd (cs := #[.slice none 0 0, .int .i64 0, .int .i64 0, .int .i64 0, .int .i64 0]) (t := 38) ?hr ?_; (case hd => rfl); (case hg => rfl); (case hr => first | (go_simp; done) | (go_simp; rfl)); intro gb305 hg w30 hbox hb; have n0_ := zA (Kd.S_below (by (with_reducible repeat (first | apply yE | apply yF | apply yG)); exact HO_6.out) hb); have n1_ := zA (blk_below (g := gb290) (o := .cells #[.int .i64 a0_0, .int .i64 a0_1, .int .i64 a0_2, .int .i64 a0_3, .slice A0_4 l0_4.length c0_4] 26 (0, 0)) (by (with_reducible repeat (first | refine zG ?_ _ | refine zH ?_ | refine zD ?_ _)); exact BK290.out) hb); have n2_ := zA (below_step (by repeat (first | (with_reducible first | exact HB.out | apply zC | apply zB | apply zF | refine zE ?_ GE290.out) | exact HB.out)) hb); have n3_ := zA (hbox); have n4_ := zA ((by rw [hg]; exact (zL (by repeat (first | (with_reducible first | exact HB.out | apply zC | apply zB | apply zF | refine zE ?_ GE290.out) | exact HB.out))) : w.heap.size ≤ gb305)); have n5_ := zA ((by rw [hg]; exact (zL (by repeat (first | (with_reducible first | exact HB.out | apply zC | apply zB | apply zF | refine zE ?_ GE290.out) | exact HB.out))) : w.heap.size ≤ gb305)); have n6_ := zA ((by rw [hg]; exact Nat.ne_of_lt (blk_lt (g := gb290) (o := .cells #[.int .i64 a0_0, .int .i64 a0_1, .int .i64 a0_2, .int .i64 a0_3, .slice A0_4 l0_4.length c0_4] 26 (0, 0)) (by (with_reducible repeat (first | refine zG ?_ _ | refine zH ?_ | refine zD ?_ _)); exact BK290.out)) : gb290 ≠ gb305)); have n7_ := zA ((by rw [hg]; exact Nat.ne_of_gt (blk_lt (g := gb290) (o := .cells #[.int .i64 a0_0, .int .i64 a0_1, .int .i64 a0_2, .int .i64 a0_3, .slice A0_4 l0_4.length c0_4] 26 (0, 0)) (by (with_reducible repeat (first | refine zG ?_ _ | refine zH ?_ | refine zD ?_ _)); exact BK290.out)) : gb305 ≠ gb290)); clear HO_6; clear BK290; clear HB; have HO_6 := n0_; have BK290 := n1_; have HB := n2_; have BK305 := n3_; have GW305 := n4_; have GE305 := n5_; have NB290_305 := n6_; have NB305_290 := n7_; clear n0_ n1_ n2_ n3_ n4_ n5_ n6_ n7_; clear hb hbox hg; have hnb31 := NB305_290.out; have hnc31 := NB290_305.out; have hcz32_0 : w30.cell? ⟨gb305, 0, none⟩ = some (.slice none 0 0) := (zK BK305.out 0).trans rfl; have hcz32_1 : w30.cell? ⟨gb305, 1, none⟩ = some (.int .i64 0) := (zK BK305.out 1).trans rfl; have hcz32_2 : w30.cell? ⟨gb305, 2, none⟩ = some (.int .i64 0) := (zK BK305.out 2).trans rfl; have hcz32_3 : w30.cell? ⟨gb305, 3, none⟩ = some (.int .i64 0) := (zK BK305.out 3).trans rfl; have hcz32_4 : w30.cell? ⟨gb305, 4, none⟩ = some (.int .i64 0) := (zK BK305.out 4).trans rfl; have hfz32_0 := zJ BK305.out 0; have hfz32_1 := zJ BK305.out 1; have hfz32_2 := zJ BK305.out 2; have hfz32_3 := zJ BK305.out 3; have hfz32_4 := zJ BK305.out 4; have hcz33_0 : w30.cell? ⟨gb290, 0, none⟩ = some (.int .i64 a0_0) := (zK BK290.out 0).trans rfl; have hcz33_1 : w30.cell? ⟨gb290, 1, none⟩ = some (.int .i64 a0_1) := (zK BK290.out 1).trans rfl; have hcz33_2 : w30.cell? ⟨gb290, 2, none⟩ = some (.int .i64 a0_2) := (zK BK290.out 2).trans rfl; have hcz33_3 : w30.cell? ⟨gb290, 3, none⟩ = some (.int .i64 a0_3) := (zK BK290.out 3).trans rfl; have hcz33_4 : w30.cell? ⟨gb290, 4, none⟩ = some (.slice A0_4 l0_4.length c0_4) := (zK BK290.out 4).trans rfl; have hfz33_0 := zJ BK290.out 0; have hfz33_1 := zJ BK290.out 1; have hfz33_2 := zJ BK290.out 2; have hfz33_3 := zJ BK290.out 3; have hfz33_4 := zJ BK290.out 4) | ((with_reducible refine gate_callee (f := 116) rfl ?_); refine goesL_ (some 56) rfl rfl Try.func116 (by kernel_rfl) rfl #[.agg #[.int .i64 a0_0, .int .i64 a0_1, .int .i64 a0_2, .int .i64 a0_3, .slice A0_4 l0_4.length c0_4], .agg #[.slice A304_0 ((rd_T38 l1 x10_3).f0).length c304_0, .int .i64 ((rd_T38 l1 x10_3).f1), .int .i64 ((rd_T38 l1 x10_3).f2), .int .i64 ((rd_T38 l1 x10_3).f3), .int .i64 ((rd_T38 l1 x10_3).f4)]] rfl (by (try simp only [zU, zV, zW]); first | done | rfl | (simp only [zR, zQ]; rfl)) ?_; (with_reducible refine (spec_ScanOk.calls k3 a0_0 a0_1 a0_2 a0_3 _ _ l0_4 _ _ ((rd_T38 l1 x10_3).f0) ((rd_T38 l1 x10_3).f1) ((rd_T38 l1 x10_3).f2) ((rd_T38 l1 x10_3).f3) ((rd_T38 l1 x10_3).f4) true _ ?side1 ?side2 ?side3 ?side4 A27.out).mono ?_); (case side1 => exact Kd.C_below HR0_4.out (by repeat (first | (with_reducible first | exact HB.out | apply zC | apply zB | apply zF | refine zE ?_ GE290.out | refine zE ?_ GE305.out) | exact HB.out))); (case side2 => exact HC0_4.out); (case side3 => exact Kd.C_below HR304_0.out (by repeat (first | (with_reducible first | exact HB.out | apply zC | apply zB | apply zF | refine zE ?_ GE290.out | refine zE ?_ GE305.out) | exact HB.out))); (case side4 => exact HC304_0.out); rintro e w34 ⟨rfl, hb⟩; refine ⟨_, rfl, ?_⟩; have n0_ := zA (Kd.S_below (by (with_reducible repeat (first | apply yE | apply yF | apply yG)); exact (yH (yI (p := ⟨gb305, 4, none⟩) (yI (p := ⟨gb305, 3, none⟩) (yI (p := ⟨gb305, 2, none⟩) (yI (p := ⟨gb305, 1, none⟩) (yI (p := ⟨gb305, 0, none⟩) (Kd.S_types HO_6.out BK305.out (by decide)) (fun _ hk => hk.2) (.slice A304_0 ((rd_T38 l1 x10_3).f0).length c304_0)) (fun _ hk => hk.2) (.int .i64 ((rd_T38 l1 x10_3).f1))) (fun _ hk => hk.2) (.int .i64 ((rd_T38 l1 x10_3).f2))) (fun _ hk => hk.2) (.int .i64 ((rd_T38 l1 x10_3).f3))) (fun _ hk => hk.2) (.int .i64 ((rd_T38 l1 x10_3).f4))) (fun _ h_ => h_.1))) hb); have n1_ := zA (blk_below (g := gb290) (o := .cells #[.int .i64 a0_0, .int .i64 a0_1, .int .i64 a0_2, .int .i64 a0_3, .slice A0_4 l0_4.length c0_4] 26 (0, 0)) (by (with_reducible repeat (first | refine zG ?_ _ | refine zH ?_ | refine zD ?_ _)); refine blk_far ?_ NB290_305.out _; (with_reducible repeat (first | refine zG ?_ _ | refine zH ?_ | refine zD ?_ _)); refine blk_far ?_ NB290_305.out _; (with_reducible repeat (first | refine zG ?_ _ | refine zH ?_ | refine zD ?_ _)); refine blk_far ?_ NB290_305.out _; (with_reducible repeat (first | refine zG ?_ _ | refine zH ?_ | refine zD ?_ _)); refine blk_far ?_ NB290_305.out _; (with_reducible repeat (first | refine zG ?_ _ | refine zH ?_ | refine zD ?_ _)); refine blk_far ?_ NB290_305.out _; (with_reducible repeat (first | refine zG ?_ _ | refine zH ?_ | refine zD ?_ _)); exact BK290.out) hb); have n2_ := zA (blk_below (g := gb305) (o := .cells #[.slice A304_0 ((rd_T38 l1 x10_3).f0).length c304_0, .int .i64 ((rd_T38 l1 x10_3).f1), .int .i64 ((rd_T38 l1 x10_3).f2), .int .i64 ((rd_T38 l1 x10_3).f3), .int .i64 ((rd_T38 l1 x10_3).f4)] 38 (0, 0)) (by (with_reducible repeat (first | refine zG ?_ _ | refine zH ?_ | refine zD ?_ _)); refine blk_put (cs := #[.slice A304_0 ((rd_T38 l1 x10_3).f0).length c304_0, .int .i64 ((rd_T38 l1 x10_3).f1), .int .i64 ((rd_T38 l1 x10_3).f2), .int .i64 ((rd_T38 l1 x10_3).f3), .int .i64 0]) ?_ 4 _ rfl; (with_reducible repeat (first | refine zG ?_ _ | refine zH ?_ | refine zD ?_ _)); refine blk_put (cs := #[.slice A304_0 ((rd_T38 l1 x10_3).f0).length c304_0, .int .i64 ((rd_T38 l1 x10_3).f1), .int .i64 ((rd_T38 l1 x10_3).f2), .int .i64 0, .int .i64 0]) ?_ 3 _ rfl; (with_reducible repeat (first | refine zG ?_ _ | refine zH ?_ | refine zD ?_ _)); refine blk_put (cs := #[.slice A304_0 ((rd_T38 l1 x10_3).f0).length c304_0, .int .i64 ((rd_T38 l1 x10_3).f1), .int .i64 0, .int .i64 0, .int .i64 0]) ?_ 2 _ rfl; (with_reducible repeat (first | refine zG ?_ _ | refine zH ?_ | refine zD ?_ _)); refine blk_put (cs := #[.slice A304_0 ((rd_T38 l1 x10_3).f0).length c304_0, .int .i64 0, .int .i64 0, .int .i64 0, .int .i64 0]) ?_ 1 _ rfl; (with_reducible repeat (first | refine zG ?_ _ | refine zH ?_ | refine zD ?_ _)); refine blk_put (cs := #[.slice none 0 0, .int .i64 0, .int .i64 0, .int .i64 0, .int .i64 0]) ?_ 0 _ rfl; (with_reducible repeat (first | refine zG ?_ _ | refine zH ?_ | refine zD ?_ _)); exact BK305.out) hb); have n3_ := zA (below_step (by repeat (first | (with_reducible first | exact HB.out | apply zC | apply zB | apply zF | refine zE ?_ GE290.out | refine zE ?_ GE305.out) | exact HB.out)) hb); clear HO_6; clear BK290; clear BK305; clear HB; have HO_6 := n0_; have BK290 := n1_; have BK305 := n2_; have HB := n3_; clear n0_ n1_ n2_ n3_; (try clear hb); (try clear hb2); (try clear hk); (try clear hi); have hcz35_0 : w34.cell? ⟨gb305, 0, none⟩ = some (.slice A304_0 ((rd_T38 l1 x10_3).f0).length c304_0) := (zK BK305.out 0).trans rfl; have hcz35_1 : w34.cell? ⟨gb305, 1, none⟩ = some (.int .i64 ((rd_T38 l1 x10_3).f1)) := (zK BK305.out 1).trans rfl; have hcz35_2 : w34.cell? ⟨gb305, 2, none⟩ = some (.int .i64 ((rd_T38 l1 x10_3).f2)) := (zK BK305.out 2).trans rfl; have hcz35_3 : w34.cell? ⟨gb305, 3, none⟩ = some (.int .i64 ((rd_T38 l1 x10_3).f3)) := (zK BK305.out 3).trans rfl; have hcz35_4 : w34.cell? ⟨gb305, 4, none⟩ = some (.int .i64 ((rd_T38 l1 x10_3).f4)) := (zK BK305.out 4).trans rfl; have hfz35_0 := zJ BK305.out 0; have hfz35_1 := zJ BK305.out 1; have hfz35_2 := zJ BK305.out 2; have hfz35_3 := zJ BK305.out 3; have hfz35_4 := zJ BK305.out 4))
            (try simp only [Act.put, List.setIfInBounds_toArray, List.set_cons_zero, List.set_cons_succ])
            go_cut [12] (fun v12 wc => ∃ (kq : Nat) (x12_28 : Int), v12 = .int .i64 x12_28 ∧ Aside0 (spec_l12Left.j4 kq l1 x6_3 x10_3 x12_28 a0_0 a0_1 a0_2 a0_3 l0_4 ((rd_T38 l1 x10_3).f0) ((rd_T38 l1 x10_3).f1) ((rd_T38 l1 x10_3).f2) ((rd_T38 l1 x10_3).f3) ((rd_T38 l1 x10_3).f4) = some (r1, r2)) ∧ Aside0 (kq ≤ k3) ∧ Aside0 (Kd.S (Kd.slice 3 (Kd.int .i64)) 36 wc w.heap.size (fun _ => True) u6 x6_3) ∧ Aside0 (wc.heap[gb290]? = some (.cells #[.int .i64 a0_0, .int .i64 a0_1, .int .i64 a0_2, .int .i64 a0_3, (.slice A0_4 l0_4.length c0_4)] 26 (0, 0))) ∧ Aside0 (wc.heap[gb305]? = some (.cells #[(.slice A304_0 ((rd_T38 l1 x10_3).f0).length c304_0), .int .i64 ((rd_T38 l1 x10_3).f1), .int .i64 ((rd_T38 l1 x10_3).f2), .int .i64 ((rd_T38 l1 x10_3).f3), .int .i64 ((rd_T38 l1 x10_3).f4)] 38 (0, 0))) ∧ Aside0 (Below w.heap.size w wc))
            case first =>
             have H := HC29.out
             clear HC29
             by_cases c36 : ((rd_T38 l1 x10_3).f3) = 0
             ·rw [if_pos c36] at H
              have c36b0 : (((rd_T38 l1 x10_3).f3) == 0) = true := beq_iff_eq.mpr c36
              have c36b1 : (((rd_T38 l1 x10_3).f3) != 0) = false := bne_eq_false_iff_eq.mpr c36
              clear c36
              (first | rw [c36b0] | (simp only [i64_w, i32_w]; rw [c36b0]) | skip)
              have H' := zA H
              clear H
              go_wp2
              go_meet
              case rel => exact ⟨_, ((-1)), (by first | rfl | (simp; done) | (simp [*]; done)), H', ⟨by have := HJ2.out; have := HK2.out; have := HK3.out; first | omega | exact Nat.le_refl _⟩, ⟨by (with_reducible repeat (first | apply yE | apply yF | apply yG)); exact HO_6.out⟩, ⟨by (with_reducible repeat (first | refine zG ?_ _ | refine zH ?_ | refine zD ?_ _)); exact BK290.out⟩, ⟨by (with_reducible repeat (first | refine zG ?_ _ | refine zH ?_ | refine zD ?_ _)); exact BK305.out⟩, ⟨by repeat (first | (with_reducible first | exact HB.out | apply zC | apply zB | apply zF | refine zE ?_ GE290.out | refine zE ?_ GE305.out) | exact HB.out)⟩⟩
             ·rw [if_neg c36] at H
              have c36b0 : (((rd_T38 l1 x10_3).f3) == 0) = false := beq_eq_false_iff_ne.mpr c36
              have c36b1 : (((rd_T38 l1 x10_3).f3) != 0) = true := bne_iff_ne.mpr c36
              (first | rw [c36b0] | (simp only [i64_w, i32_w]; rw [c36b0]) | skip)
              have H' := zA H
              clear H
              go_wp2
              go_meet
              case rel => exact ⟨_, ((rd_T38 l1 x10_3).f3), (by first | rfl | (simp; done) | (simp [*]; done)), H', ⟨by have := HJ2.out; have := HK2.out; have := HK3.out; first | omega | exact Nat.le_refl _⟩, ⟨by (with_reducible repeat (first | apply yE | apply yF | apply yG)); exact HO_6.out⟩, ⟨by (with_reducible repeat (first | refine zG ?_ _ | refine zH ?_ | refine zD ?_ _)); exact BK290.out⟩, ⟨by (with_reducible repeat (first | refine zG ?_ _ | refine zH ?_ | refine zD ?_ _)); exact BK305.out⟩, ⟨by repeat (first | (with_reducible first | exact HB.out | apply zC | apply zB | apply zF | refine zE ?_ GE290.out | refine zE ?_ GE305.out) | exact HB.out)⟩⟩
            case rest =>
             clear HC29
             try clear c1
             try clear c2
             try clear p2
             try clear c3
             try clear p3
             try clear q3
             try clear hx3
             try clear c6
             try clear p6
             try clear c8
             try clear c11
             try clear c12
             try clear c13
             try clear c14
             try clear c14b0
             try clear c18
             try clear c18b0
             try clear c19
             try clear c21
             try clear c25
             try clear c25b0
             try clear c26
             try clear c26b0
             try clear c28
             try clear c30
             try clear p30
             try clear q30
             try clear hx30
             try clear c31
             try clear c36
             try clear c36b0
             try clear c36b1
             try clear hcz11_0
             try clear hcz11_1
             try clear hcz11_2
             try clear hcz11_3
             try clear hcz11_4
             try clear hcz15_0
             try clear hcz15_1
             try clear hcz15_2
             try clear hcz15_3
             try clear hcz15_4
             try clear hcz24_0
             try clear hcz24_1
             try clear hcz24_2
             try clear hcz24_3
             try clear hcz24_4
             try clear hcz32_0
             try clear hcz32_1
             try clear hcz32_2
             try clear hcz32_3
             try clear hcz32_4
             try clear hcz33_0
             try clear hcz33_1
             try clear hcz33_2
             try clear hcz33_3
             try clear hcz33_4
             try clear hcz35_0
             try clear hcz35_1
             try clear hcz35_2
             try clear hcz35_3
             try clear hcz35_4
             try clear hcz9_0
             try clear hcz9_1
             try clear hcz9_2
             try clear hcz9_3
             try clear hcz9_4
             try clear hfz11_0
             try clear hfz11_1
             try clear hfz11_2
             try clear hfz11_3
             try clear hfz11_4
             try clear hfz15_0
             try clear hfz15_1
             try clear hfz15_2
             try clear hfz15_3
             try clear hfz15_4
             try clear hfz24_0
             try clear hfz24_1
             try clear hfz24_2
             try clear hfz24_3
             try clear hfz24_4
             try clear hfz32_0
             try clear hfz32_1
             try clear hfz32_2
             try clear hfz32_3
             try clear hfz32_4
             try clear hfz33_0
             try clear hfz33_1
             try clear hfz33_2
             try clear hfz33_3
             try clear hfz33_4
             try clear hfz35_0
             try clear hfz35_1
             try clear hfz35_2
             try clear hfz35_3
             try clear hfz35_4
             try clear hfz9_0
             try clear hfz9_1
             try clear hfz9_2
             try clear hfz9_3
             try clear hfz9_4
             try clear hx304_0
             try clear hx304_1
             try clear hx304_2
             try clear hx304_3
             try clear hx304_4
             try clear p2
             try clear p304
             try clear p6
             try clear q304
             obtain ⟨kq, x12_28, rfl, HA, HJ28, HO_6, BK290, BK305, HB⟩ := hcut
             cases kq with
             | zero => exact absurd HA.out (by simp [spec_l12Left.j4])
             | succ kj28 =>
              have H := HA.out
              clear HA
              simp only [spec_l12Left.j4] at H
              have H' := zA H
              clear H
              go_wp2
              go_loopg [13] kj28 (fun kq v13 w' => ∃ (x6_5 : List (List Int)) (x13_5 : Int), v13 = .int .i64 x13_5 ∧ Aside0 (spec_l12Left.l3 kq l1 x6_5 x10_3 x12_28 x13_5 a0_0 a0_1 a0_2 a0_3 l0_4 ((rd_T38 l1 x10_3).f0) ((rd_T38 l1 x10_3).f1) ((rd_T38 l1 x10_3).f2) ((rd_T38 l1 x10_3).f3) ((rd_T38 l1 x10_3).f4) = some (r1, r2)) ∧ Aside0 (kq ≤ kj28) ∧ Aside0 (Kd.S (Kd.slice 3 (Kd.int .i64)) 36 w' w.heap.size (fun _ => True) u6 x6_5) ∧ Aside0 (w'.heap[gb290]? = some (.cells #[.int .i64 a0_0, .int .i64 a0_1, .int .i64 a0_2, .int .i64 a0_3, (.slice A0_4 l0_4.length c0_4)] 26 (0, 0))) ∧ Aside0 (w'.heap[gb305]? = some (.cells #[(.slice A304_0 ((rd_T38 l1 x10_3).f0).length c304_0), .int .i64 ((rd_T38 l1 x10_3).f1), .int .i64 ((rd_T38 l1 x10_3).f2), .int .i64 ((rd_T38 l1 x10_3).f3), .int .i64 ((rd_T38 l1 x10_3).f4)] 38 (0, 0))) ∧ Aside0 (Below w.heap.size w w'))
              case atStart => exact ⟨(x6_3), (0), (by first | rfl | (simp; done) | (simp [*]; done)), H', ⟨Nat.le_refl _⟩, ⟨by (with_reducible repeat (first | apply yE | apply yF | apply yG)); exact HO_6.out⟩, ⟨by (with_reducible repeat (first | refine zG ?_ _ | refine zH ?_ | refine zD ?_ _)); exact BK290.out⟩, ⟨by (with_reducible repeat (first | refine zG ?_ _ | refine zH ?_ | refine zD ?_ _)); exact BK305.out⟩, ⟨by repeat (first | (with_reducible first | exact HB.out | apply zC | apply zB | apply zF | refine zE ?_ GE290.out | refine zE ?_ GE305.out) | exact HB.out)⟩⟩
              case round =>
               clear H'
               try clear c1
               try clear c2
               try clear p2
               try clear c3
               try clear p3
               try clear q3
               try clear hx3
               try clear c6
               try clear p6
               try clear c8
               try clear c11
               try clear c12
               try clear c13
               try clear c14
               try clear c14b0
               try clear c18
               try clear c18b0
               try clear c19
               try clear c21
               try clear c25
               try clear c25b0
               try clear c26
               try clear c26b0
               try clear c28
               try clear c30
               try clear p30
               try clear q30
               try clear hx30
               try clear c31
               try clear c36
               try clear c36b0
               try clear c36b1
               try clear hcz11_0
               try clear hcz11_1
               try clear hcz11_2
               try clear hcz11_3
               try clear hcz11_4
               try clear hcz15_0
               try clear hcz15_1
               try clear hcz15_2
               try clear hcz15_3
               try clear hcz15_4
               try clear hcz24_0
               try clear hcz24_1
               try clear hcz24_2
               try clear hcz24_3
               try clear hcz24_4
               try clear hcz32_0
               try clear hcz32_1
               try clear hcz32_2
               try clear hcz32_3
               try clear hcz32_4
               try clear hcz33_0
               try clear hcz33_1
               try clear hcz33_2
               try clear hcz33_3
               try clear hcz33_4
               try clear hcz35_0
               try clear hcz35_1
               try clear hcz35_2
               try clear hcz35_3
               try clear hcz35_4
               try clear hcz9_0
               try clear hcz9_1
               try clear hcz9_2
               try clear hcz9_3
               try clear hcz9_4
               try clear hfz11_0
               try clear hfz11_1
               try clear hfz11_2
               try clear hfz11_3
               try clear hfz11_4
               try clear hfz15_0
               try clear hfz15_1
               try clear hfz15_2
               try clear hfz15_3
               try clear hfz15_4
               try clear hfz24_0
               try clear hfz24_1
               try clear hfz24_2
               try clear hfz24_3
               try clear hfz24_4
               try clear hfz32_0
               try clear hfz32_1
               try clear hfz32_2
               try clear hfz32_3
               try clear hfz32_4
               try clear hfz33_0
               try clear hfz33_1
               try clear hfz33_2
               try clear hfz33_3
               try clear hfz33_4
               try clear hfz35_0
               try clear hfz35_1
               try clear hfz35_2
               try clear hfz35_3
               try clear hfz35_4
               try clear hfz9_0
               try clear hfz9_1
               try clear hfz9_2
               try clear hfz9_3
               try clear hfz9_4
               try clear hx304_0
               try clear hx304_1
               try clear hx304_2
               try clear hx304_3
               try clear hx304_4
               try clear p2
               try clear p3
               try clear p30
               try clear p304
               try clear p6
               try clear q3
               try clear q30
               try clear q304
               obtain ⟨x6_5, x13_5, rfl, HA, HK5, HO_6, BK290, BK305, HB⟩ := hrel
               cases gk with
               | zero => exact absurd HA.out (by simp [spec_l12Left.l3])
               | succ k5 =>
                have H := HA.out
                clear HA
                simp only [spec_l12Left.l3] at H
                by_cases c37 : x13_5 < (((rd_T38 l1 x10_3).f0).length : Int)
                ·rw [if_pos c37] at H
                 have c37b0 : decide (x13_5 < (((rd_T38 l1 x10_3).f0).length : Int)) = true := zT c37
                 clear c37
                 have H' := zA H
                 clear H
                 have hnb38 := NB305_290.out
                 have hnc38 := NB290_305.out
                 have hcz39_0 : wr.cell? ⟨gb305, 0, none⟩ = some (.slice A304_0 ((rd_T38 l1 x10_3).f0).length c304_0) := (zK BK305.out 0).trans rfl
                 have hcz39_1 : wr.cell? ⟨gb305, 1, none⟩ = some (.int .i64 ((rd_T38 l1 x10_3).f1)) := (zK BK305.out 1).trans rfl
                 have hcz39_2 : wr.cell? ⟨gb305, 2, none⟩ = some (.int .i64 ((rd_T38 l1 x10_3).f2)) := (zK BK305.out 2).trans rfl
                 have hcz39_3 : wr.cell? ⟨gb305, 3, none⟩ = some (.int .i64 ((rd_T38 l1 x10_3).f3)) := (zK BK305.out 3).trans rfl
                 have hcz39_4 : wr.cell? ⟨gb305, 4, none⟩ = some (.int .i64 ((rd_T38 l1 x10_3).f4)) := (zK BK305.out 4).trans rfl
                 have hfz39_0 := zJ BK305.out 0
                 have hfz39_1 := zJ BK305.out 1
                 have hfz39_2 := zJ BK305.out 2
                 have hfz39_3 := zJ BK305.out 3
                 have hfz39_4 := zJ BK305.out 4
                 go_wp2
                 go_loopg [14] k5 (fun kq v14 w' => ∃ (x6_6 : List (List Int)) (x14_6 : Int), v14 = .int .i64 x14_6 ∧ Aside0 (spec_l12Left.l4 kq l1 x6_6 x10_3 x12_28 x13_5 x14_6 a0_0 a0_1 a0_2 a0_3 l0_4 ((rd_T38 l1 x10_3).f0) ((rd_T38 l1 x10_3).f1) ((rd_T38 l1 x10_3).f2) ((rd_T38 l1 x10_3).f3) ((rd_T38 l1 x10_3).f4) = some (r1, r2)) ∧ Aside0 (kq ≤ k5) ∧ Aside0 (Kd.S (Kd.slice 3 (Kd.int .i64)) 36 w' w.heap.size (fun _ => True) u6 x6_6) ∧ Aside0 (w'.heap[gb290]? = some (.cells #[.int .i64 a0_0, .int .i64 a0_1, .int .i64 a0_2, .int .i64 a0_3, (.slice A0_4 l0_4.length c0_4)] 26 (0, 0))) ∧ Aside0 (w'.heap[gb305]? = some (.cells #[(.slice A304_0 ((rd_T38 l1 x10_3).f0).length c304_0), .int .i64 ((rd_T38 l1 x10_3).f1), .int .i64 ((rd_T38 l1 x10_3).f2), .int .i64 ((rd_T38 l1 x10_3).f3), .int .i64 ((rd_T38 l1 x10_3).f4)] 38 (0, 0))) ∧ Aside0 (Below w.heap.size w w'))
                 case atStart => exact ⟨(x6_5), (((rd_T38 l1 x10_3).f1)), (by first | rfl | (simp; done) | (simp [*]; done)), H', ⟨Nat.le_refl _⟩, ⟨by (with_reducible repeat (first | apply yE | apply yF | apply yG)); exact HO_6.out⟩, ⟨by (with_reducible repeat (first | refine zG ?_ _ | refine zH ?_ | refine zD ?_ _)); exact BK290.out⟩, ⟨by (with_reducible repeat (first | refine zG ?_ _ | refine zH ?_ | refine zD ?_ _)); exact BK305.out⟩, ⟨by repeat (first | (with_reducible first | exact HB.out | apply zC | apply zB | apply zF | refine zE ?_ GE290.out | refine zE ?_ GE305.out) | exact HB.out)⟩⟩
                 case round =>
                  clear H'
                  try clear c1
                  try clear c2
                  try clear p2
                  try clear c3
                  try clear p3
                  try clear q3
                  try clear hx3
                  try clear c6
                  try clear p6
                  try clear c8
                  try clear c11
                  try clear c12
                  try clear c13
                  try clear c14
                  try clear c14b0
                  try clear c18
                  try clear c18b0
                  try clear c19
                  try clear c21
                  try clear c25
                  try clear c25b0
                  try clear c26
                  try clear c26b0
                  try clear c28
                  try clear c30
                  try clear p30
                  try clear q30
                  try clear hx30
                  try clear c31
                  try clear c36
                  try clear c36b0
                  try clear c36b1
                  try clear c37
                  try clear c37b0
                  try clear c38
                  try clear hcz11_0
                  try clear hcz11_1
                  try clear hcz11_2
                  try clear hcz11_3
                  try clear hcz11_4
                  try clear hcz15_0
                  try clear hcz15_1
                  try clear hcz15_2
                  try clear hcz15_3
                  try clear hcz15_4
                  try clear hcz24_0
                  try clear hcz24_1
                  try clear hcz24_2
                  try clear hcz24_3
                  try clear hcz24_4
                  try clear hcz32_0
                  try clear hcz32_1
                  try clear hcz32_2
                  try clear hcz32_3
                  try clear hcz32_4
                  try clear hcz33_0
                  try clear hcz33_1
                  try clear hcz33_2
                  try clear hcz33_3
                  try clear hcz33_4
                  try clear hcz35_0
                  try clear hcz35_1
                  try clear hcz35_2
                  try clear hcz35_3
                  try clear hcz35_4
                  try clear hcz39_0
                  try clear hcz39_1
                  try clear hcz39_2
                  try clear hcz39_3
                  try clear hcz39_4
                  try clear hcz9_0
                  try clear hcz9_1
                  try clear hcz9_2
                  try clear hcz9_3
                  try clear hcz9_4
                  try clear hfz11_0
                  try clear hfz11_1
                  try clear hfz11_2
                  try clear hfz11_3
                  try clear hfz11_4
                  try clear hfz15_0
                  try clear hfz15_1
                  try clear hfz15_2
                  try clear hfz15_3
                  try clear hfz15_4
                  try clear hfz24_0
                  try clear hfz24_1
                  try clear hfz24_2
                  try clear hfz24_3
                  try clear hfz24_4
                  try clear hfz32_0
                  try clear hfz32_1
                  try clear hfz32_2
                  try clear hfz32_3
                  try clear hfz32_4
                  try clear hfz33_0
                  try clear hfz33_1
                  try clear hfz33_2
                  try clear hfz33_3
                  try clear hfz33_4
                  try clear hfz35_0
                  try clear hfz35_1
                  try clear hfz35_2
                  try clear hfz35_3
                  try clear hfz35_4
                  try clear hfz39_0
                  try clear hfz39_1
                  try clear hfz39_2
                  try clear hfz39_3
                  try clear hfz39_4
                  try clear hfz9_0
                  try clear hfz9_1
                  try clear hfz9_2
                  try clear hfz9_3
                  try clear hfz9_4
                  try clear hx304_0
                  try clear hx304_1
                  try clear hx304_2
                  try clear hx304_3
                  try clear hx304_4
                  try clear p2
                  try clear p3
                  try clear p30
                  try clear p304
                  try clear p6
                  try clear q3
                  try clear q30
                  try clear q304
                  obtain ⟨x6_6, x14_6, rfl, HA, HK6, HO_6, BK290, BK305, HB⟩ := hrel
                  cases gk with
                  | zero => exact absurd HA.out (by simp [spec_l12Left.l4])
                  | succ k6 =>
                   have H := HA.out
                   clear HA
                   simp only [spec_l12Left.l4] at H
                   by_cases c40 : x14_6 ≤ ((rd_T38 l1 x10_3).f2)
                   ·rw [if_pos c40] at H
                    have c40b0 : decide (x14_6 ≤ ((rd_T38 l1 x10_3).f2)) = true := zT c40
                    clear c40
                    by_cases c41 : 0 ≤ x13_5
                    ·rw [if_pos c41] at H
                     have c41b0 : decide (0 ≤ x13_5) = true := zT c41
                     clear c41
                     by_cases c42 : x13_5 < (((rd_T38 l1 x10_3).f0).length : Int)
                     ·rw [if_pos c42] at H
                      have c42b0 : decide (x13_5 < (((rd_T38 l1 x10_3).f0).length : Int)) = true := zT c42
                      clear c42
                      by_cases c43 : 0 ≤ (rd ((rd_T38 l1 x10_3).f0) x13_5)
                      ·rw [if_pos c43] at H
                       have c43b0 : decide (0 ≤ (rd ((rd_T38 l1 x10_3).f0) x13_5)) = true := zT c43
                       clear c43
                       by_cases c44 : (rd ((rd_T38 l1 x10_3).f0) x13_5) < (x6_6.length : Int)
                       ·rw [if_pos c44] at H
                        have c44b0 : decide ((rd ((rd_T38 l1 x10_3).f0) x13_5) < (x6_6.length : Int)) = true := zT c44
                        clear c44
                        by_cases c45 : 0 ≤ x14_6
                        ·rw [if_pos c45] at H
                         have c45b0 : decide (0 ≤ x14_6) = true := zT c45
                         clear c45
                         by_cases c46 : x14_6 < ((rd_L3 x6_6 (rd ((rd_T38 l1 x10_3).f0) x13_5)).length : Int)
                         ·rw [if_pos c46] at H
                          have c46b0 : decide (x14_6 < ((rd_L3 x6_6 (rd ((rd_T38 l1 x10_3).f0) x13_5)).length : Int)) = true := zT c46
                          clear c46
                          by_cases c47 : (rd (rd_L3 x6_6 (rd ((rd_T38 l1 x10_3).f0) x13_5)) x14_6) = x12_28
                          ·rw [if_pos c47] at H
                           have c47b0 : ((rd (rd_L3 x6_6 (rd ((rd_T38 l1 x10_3).f0) x13_5)) x14_6) == x12_28) = true := beq_iff_eq.mpr c47
                           have c47b1 : ((rd (rd_L3 x6_6 (rd ((rd_T38 l1 x10_3).f0) x13_5)) x14_6) != x12_28) = false := bne_eq_false_iff_eq.mpr c47
                           clear c47
                           obtain ⟨y315, hy315⟩ : ∃ y_ : List Int, y_ = ((rd_L3 x6_6 (rd ((rd_T38 l1 x10_3).f0) x13_5)).set (x14_6 : Int).toNat ((rd_T38 l1 x10_3).f4)) := ⟨_, rfl⟩
                           replace H : (spec_l12Left.l4 k6 l1 (x6_6.set ((rd ((rd_T38 l1 x10_3).f0) x13_5) : Int).toNat y315) x10_3 x12_28 x13_5 (wrap64 (x14_6 + 1)) a0_0 a0_1 a0_2 a0_3 l0_4 ((rd_T38 l1 x10_3).f0) ((rd_T38 l1 x10_3).f1) ((rd_T38 l1 x10_3).f2) ((rd_T38 l1 x10_3).f3) ((rd_T38 l1 x10_3).f4)) = some (r1, r2) := by first | (rw [hy315]; with_reducible exact H) | (have H2_ := (zS _ _).symm.trans H; rw [hy315]; with_reducible exact H2_) | (have H2_ := (zS _ _).symm.trans H; with_reducible exact H2_) | with_reducible exact H | (rw [hy315]; exact H) | exact H
                           have Ny315 := zA hy315
                           clear hy315
                           obtain ⟨y317, hy317⟩ : ∃ y_ : List (List Int), y_ = (x6_6.set ((rd ((rd_T38 l1 x10_3).f0) x13_5) : Int).toNat y315) := ⟨_, rfl⟩
                           replace H : (spec_l12Left.l4 k6 l1 y317 x10_3 x12_28 x13_5 (wrap64 (x14_6 + 1)) a0_0 a0_1 a0_2 a0_3 l0_4 ((rd_T38 l1 x10_3).f0) ((rd_T38 l1 x10_3).f1) ((rd_T38 l1 x10_3).f2) ((rd_T38 l1 x10_3).f3) ((rd_T38 l1 x10_3).f4)) = some (r1, r2) := by first | (rw [hy317]; with_reducible exact H) | (have H2_ := (zS _ _).symm.trans H; rw [hy317]; with_reducible exact H2_) | (have H2_ := (zS _ _).symm.trans H; with_reducible exact H2_) | with_reducible exact H | (rw [hy317]; exact H) | exact H
                           have Ny317 := zA hy317
                           clear hy317
                           have H' := zA H
                           clear H
                           have hnb49 := NB305_290.out
                           have hnc49 := NB290_305.out
                           have hcz50_0 : wr.cell? ⟨gb305, 0, none⟩ = some (.slice A304_0 ((rd_T38 l1 x10_3).f0).length c304_0) := (zK BK305.out 0).trans rfl
                           have hcz50_1 : wr.cell? ⟨gb305, 1, none⟩ = some (.int .i64 ((rd_T38 l1 x10_3).f1)) := (zK BK305.out 1).trans rfl
                           have hcz50_2 : wr.cell? ⟨gb305, 2, none⟩ = some (.int .i64 ((rd_T38 l1 x10_3).f2)) := (zK BK305.out 2).trans rfl
                           have hcz50_3 : wr.cell? ⟨gb305, 3, none⟩ = some (.int .i64 ((rd_T38 l1 x10_3).f3)) := (zK BK305.out 3).trans rfl
                           have hcz50_4 : wr.cell? ⟨gb305, 4, none⟩ = some (.int .i64 ((rd_T38 l1 x10_3).f4)) := (zK BK305.out 4).trans rfl
                           have hfz50_0 := zJ BK305.out 0
                           have hfz50_1 := zJ BK305.out 1
                           have hfz50_2 := zJ BK305.out 2
                           have hfz50_3 := zJ BK305.out 3
                           have hfz50_4 := zJ BK305.out 4
                           have p310 : 0 ≤ (x13_5 : Int) := zI (by first | (with_reducible assumption) | assumption)
                           have q310 : x13_5 < (((rd_T38 l1 x10_3).f0).length : Int) := zI (by first | (with_reducible assumption) | assumption)
                           obtain ⟨ad310, e310, hx310_0⟩ := Kd.at_int HR304_0.out x13_5 p310 q310
                           cases e310
                           replace hx310_0 := (HB.out.cell (World.block_lt_of_cell? w _ hx310_0)).trans hx310_0
                           replace p310 := eq_true p310
                           replace q310 := eq_true q310
                           obtain ⟨Ao51, co51, eo51⟩ := Kd.S_slice HO_6.out
                           subst eo51
                           have p311 : 0 ≤ ((rd ((rd_T38 l1 x10_3).f0) x13_5) : Int) := zI (by first | (with_reducible assumption) | assumption)
                           have q311 : (rd ((rd_T38 l1 x10_3).f0) x13_5) < (x6_6.length : Int) := zI (by first | (with_reducible assumption) | assumption)
                           obtain ⟨ad311, A311_0, c311_0, e311, hx311_0, hl311_0, hi311_0⟩ := at_L3 (Kd.S_reads' HO_6.out).2.2 (rd ((rd_T38 l1 x10_3).f0) x13_5) p311 q311
                           cases e311
                           obtain ⟨ce311, hce311, hMe311, hcc311⟩ := Kd.S_get HO_6.out [] (rd ((rd_T38 l1 x10_3).f0) x13_5) p311 (by first | exact q311 | exact zI (by first | (with_reducible assumption) | assumption) | (have e_ := (Kd.S_reads' HO_6.out).1; omega))
                           obtain ⟨ve311_0, rfl, ge311_0⟩ := hMe311
                           have hv311_0 := hcc311 0 _ rfl
                           rw [Nat.add_zero, show ((Kd.slice 3 (Kd.int .i64))).sz = 1 from rfl, Nat.mul_one] at hv311_0
                           replace hv311_0 := Option.some.inj (hv311_0.symm.trans hx311_0)
                           rw [hv311_0] at ge311_0
                           have HL311_0 := zA (show Kd.R (Kd.int .i64) 3 _ _ _ _ (rd_L3 x6_6 (rd ((rd_T38 l1 x10_3).f0) x13_5)) from ge311_0)
                           clear hv311_0 ge311_0
                           have HX311_0 := zA hx311_0
                           clear hcc311 hce311
                           have HR311_0 := zA hi311_0
                           have HC311_0 := zA hl311_0
                           clear hi311_0 hl311_0
                           replace p311 := eq_true p311
                           replace q311 := eq_true q311
                           have p312 : 0 ≤ (x14_6 : Int) := zI (by first | (with_reducible assumption) | assumption)
                           have q312 : x14_6 < ((rd_L3 x6_6 (rd ((rd_T38 l1 x10_3).f0) x13_5)).length : Int) := zI (by first | (with_reducible assumption) | assumption)
                           obtain ⟨ad312, e312, hx312_0⟩ := Kd.at_int (by repeat (first | (with_reducible exact HR311_0.out) | (with_reducible refine yN ?_ _) | (with_reducible refine yL ?_ _) | (with_reducible refine yM ?_) | exact HR311_0.out)) x14_6 p312 q312
                           cases e312
                           replace p312 := eq_true p312
                           replace q312 := eq_true q312
                           try go_wp2
                           have n0_ := zA (yG HO_6.out)
                           have n1_ := zA (zO HL311_0.out)
                           have n2_ := zA (zH BK290.out)
                           have n3_ := zA (zH BK305.out)
                           have n4_ := zA (yM HR311_0.out)
                           have n5_ := zA (zF HB.out)
                           clear HO_6
                           clear HL311_0
                           clear BK290
                           clear BK305
                           clear HR311_0
                           clear HB
                           have HO_6 := n0_
                           have HL311_0 := n1_
                           have BK290 := n2_
                           have BK305 := n3_
                           have HR311_0 := n4_
                           have HB := n5_
                           clear n0_ n1_ n2_ n3_ n4_ n5_
                           have p313 : 0 ≤ (x13_5 : Int) := zI (by first | (with_reducible assumption) | assumption)
                           have q313 : x13_5 < (((rd_T38 l1 x10_3).f0).length : Int) := zI (by first | (with_reducible assumption) | assumption)
                           obtain ⟨ad313, e313, hx313_0⟩ := Kd.at_int HR304_0.out x13_5 p313 q313
                           have hw313_0 := hx313_0
                           obtain rfl : ad310 = ad313 := (by injection e313)
                           replace hx313_0 := (HB.out.cell (World.block_lt_of_cell? w _ hx313_0)).trans hx313_0
                           replace p313 := eq_true p313
                           replace q313 := eq_true q313
                           have p314 : 0 ≤ ((rd ((rd_T38 l1 x10_3).f0) x13_5) : Int) := zI (by first | (with_reducible assumption) | assumption)
                           have q314 : (rd ((rd_T38 l1 x10_3).f0) x13_5) < (x6_6.length : Int) := zI (by first | (with_reducible assumption) | assumption)
                           obtain ⟨ad314, A314_0, c314_0, e314, hx314_0, hl314_0, hi314_0⟩ := at_L3 (Kd.S_reads' HO_6.out).2.2 (rd ((rd_T38 l1 x10_3).f0) x13_5) p314 q314
                           obtain rfl : ad311 = ad314 := (by injection e314)
                           obtain ⟨ce314, hce314, hMe314, hcc314⟩ := Kd.S_get HO_6.out [] (rd ((rd_T38 l1 x10_3).f0) x13_5) p314 (by first | exact q314 | exact zI (by first | (with_reducible assumption) | assumption) | (have e_ := (Kd.S_reads' HO_6.out).1; omega))
                           obtain ⟨ve314_0, rfl, ge314_0⟩ := hMe314
                           have hv314_0 := hcc314 0 _ rfl
                           rw [Nat.add_zero, show ((Kd.slice 3 (Kd.int .i64))).sz = 1 from rfl, Nat.mul_one] at hv314_0
                           replace hv314_0 := Option.some.inj (hv314_0.symm.trans hx314_0)
                           rw [hv314_0] at ge314_0
                           have HL314_0 := zA (show Kd.R (Kd.int .i64) 3 _ _ _ _ (rd_L3 x6_6 (rd ((rd_T38 l1 x10_3).f0) x13_5)) from ge314_0)
                           clear hv314_0 ge314_0
                           have HX314_0 := zA hx314_0
                           clear hcc314 hce314
                           have HR314_0 := zA hi314_0
                           have HC314_0 := zA hl314_0
                           clear hi314_0 hl314_0
                           replace p314 := eq_true p314
                           replace q314 := eq_true q314
                           have p48 : 0 ≤ (x14_6 : Int) := zI (by first | (with_reducible assumption) | assumption)
                           have q48 : (x14_6 : Int) < (((rd_L3 x6_6 (rd ((rd_T38 l1 x10_3).f0) x13_5)).length : Int) : Int) := zI (by first | (with_reducible assumption) | assumption)
                           obtain ⟨go48, co48, eo48, gb48, gl48, cl48, HG48⟩ := Kd.R_form HL314_0.out (by omega)
                           (first | cases eo48 | (injection eo48 with ea_ en_ ec_; (first | subst ea_ | (injection ea_ with ea_; subst ea_)); subst ec_; clear en_))
                           have GB48 := zA gb48
                           have GG48 := zA HG48
                           clear gb48 gl48 HG48
                           obtain ⟨hx48_0, hf48_0⟩ := Kd.R_celln 0 HL314_0.out (x14_6 : Int) p48 q48
                           replace p48 := eq_true p48
                           replace q48 := eq_true q48
                           have hq53 : ((rd ((rd_T38 l1 x10_3).f0) x13_5) : Int) < (x6_6.length : Int) := (by have h_ : ((rd ((rd_T38 l1 x10_3).f0) x13_5) : Int) < ((x6_6.length : Int) : Int) := zI (by first | (with_reducible assumption) | assumption); first | exact h_ | (have e_ := (Kd.S_reads' HO_6.out).1; omega) | simpa only [List.length_set, List.length_set] using h_)
                           obtain ⟨oki53, ce53, hcl53, hM53, hcc53, hok53, hbk53⟩ := Kd.S_borrow HO_6.out [] ((rd ((rd_T38 l1 x10_3).f0) x13_5) : Int) (zI (by first | (with_reducible assumption) | assumption)) hq53
                           obtain ⟨ve53_0, rfl, ge53_0⟩ := hM53
                           have hv53 := hcc53 0 _ rfl
                           rw [Nat.add_zero, show ((Kd.slice 3 (Kd.int .i64))).sz = 1 from rfl, Nat.mul_one] at hv53
                           replace hv53 := Option.some.inj (hv53.symm.trans HX314_0.out)
                           subst hv53
                           clear hcc53 hcl53
                           replace ge53_0 := (show Kd.R (Kd.int .i64) 3 _ _ _ _ (rd_L3 x6_6 (rd ((rd_T38 l1 x10_3).f0) x13_5)) from ge53_0)
                           have HP53 := Kd.R_putg ge53_0 (x14_6 : Int) ((rd_T38 l1 x10_3).f4)
                           rw [← Ny315.out] at HP53
                           have HS53 := hbk53 HP53.2 (fun k_ e_ => by injection e_ with e_; subst e_; exact ge53_0.1 _ rfl) (x' := y315) (Kd.M_row HP53.1)
                           rw [← Ny317.out] at HS53
                           have HQ53 := zA HS53
                           clear HP53 HS53 hbk53 hok53
                           refine start_ (n := 13) (S := fun w' => w'.cell? ⟨gb305, 0, none⟩ = some (.slice (some ad310) ((rd_T38 l1 x10_3).f0).length c304_0) ∧ w'.cell? ⟨gb305, 1, none⟩ = some (.int .i64 ((rd_T38 l1 x10_3).f1)) ∧ w'.cell? ⟨gb305, 2, none⟩ = some (.int .i64 ((rd_T38 l1 x10_3).f2)) ∧ w'.cell? ⟨gb305, 3, none⟩ = some (.int .i64 ((rd_T38 l1 x10_3).f3)) ∧ w'.cell? ⟨gb305, 4, none⟩ = some (.int .i64 ((rd_T38 l1 x10_3).f4)) ∧ w'.cell? (ad310.add (x13_5).toNat) = some (.int .i64 (rd ((rd_T38 l1 x10_3).f0) x13_5)) ∧ w'.cell? (ad311.add ((rd ((rd_T38 l1 x10_3).f0) x13_5)).toNat) = some (.slice (some ⟨go48, 0, none⟩) (rd_L3 x6_6 (rd ((rd_T38 l1 x10_3).f0) x13_5)).length c314_0)) (ds := [12]) #[false, false, false, false, false, false, false, false, false, false, false, false, false] (by kernel_rfl) rfl rfl ⟨(zK BK305.out 0).trans rfl, (zK BK305.out 1).trans rfl, (zK BK305.out 2).trans rfl, (zK BK305.out 3).trans rfl, (zK BK305.out 4).trans rfl, ((HB.out.cell (World.block_lt_of_cell? w _ hw313_0)).trans hw313_0), hx314_0⟩ (fun hHeld => ?_); refine with_tabW spec_l12Left.tab30 spec_l12Left.bits30 (fun HT_ HW_ => ?_)
                           generalize wr.drew = w52 at HO_6 HL311_0 BK290 BK305 HR311_0 HB GG48 HL314_0 HQ53 HR314_0 HX314_0 hf48_0 hx313_0 hx314_0 hx48_0 hHeld ⊢
                           refine pure_ (i := 0) (N := some 92) (v := ?_) (a' := ?_) #[true, false, false, false, false, false, false, false, false, false, false, false, false] rfl rfl (any_of HT_.out (by kernel_rfl)) (fun _ _ _ h => h) (Or.inl ⟨by rfl, ?_⟩) ?_ ?_
                           rotate_left
                           ·intro w'
                            go_simp
                            with_reducible rfl
                           rotate_left
                           ·simp only [Act.put, List.setIfInBounds_toArray, List.set_cons_zero, List.set_cons_succ, i64_w, i32_w]
                            rfl
                           refine pure_ (i := 1) (N := some 93) (v := ?_) (a' := ?_) #[true, true, false, false, false, false, false, false, false, false, false, false, false] rfl rfl (any_of HT_.out (by kernel_rfl)) (fun _ _ _ h => h) (Or.inl ⟨by rfl, ?_⟩) ?_ ?_
                           rotate_left
                           ·intro w'
                            go_simp
                            with_reducible rfl
                           rotate_left
                           ·simp only [Act.put, List.setIfInBounds_toArray, List.set_cons_zero, List.set_cons_succ, i64_w, i32_w]
                            rfl
                           refine pure_ (i := 3) (N := some 95) (v := ?_) (a' := ?_) #[true, true, false, true, false, false, false, false, false, false, false, false, false] rfl rfl (any_of HT_.out (by kernel_rfl)) (fun _ _ _ h => h) (Or.inl ⟨by rfl, ?_⟩) ?_ ?_
                           rotate_left
                           ·intro w'
                            go_simp
                            with_reducible rfl
                           rotate_left
                           ·simp only [Act.put, List.setIfInBounds_toArray, List.set_cons_zero, List.set_cons_succ, i64_w, i32_w]
                            rfl
                           refine pure_ (i := 8) (N := some 100) (v := ?_) (a' := ?_) #[true, true, false, true, false, false, false, false, true, false, false, false, false] rfl rfl (any_of HT_.out (by kernel_rfl)) (fun _ _ _ h => h) (Or.inl ⟨by rfl, ?_⟩) ?_ ?_
                           rotate_left
                           ·intro w'
                            go_simp
                            with_reducible rfl
                           rotate_left
                           ·simp only [Act.put, List.setIfInBounds_toArray, List.set_cons_zero, List.set_cons_succ, i64_w, i32_w]
                            rfl
                           refine pure_ (i := 9) (N := some 101) (v := ?_) (a' := ?_) #[true, true, false, true, false, false, false, false, true, true, false, false, false] rfl rfl (any_of HT_.out (by kernel_rfl)) (fun _ _ _ h => h) (Or.inl ⟨by rfl, ?_⟩) ?_ ?_
                           rotate_left
                           ·intro w'
                            go_simp
                            with_reducible rfl
                           rotate_left
                           ·simp only [Act.put, List.setIfInBounds_toArray, List.set_cons_zero, List.set_cons_succ, i64_w, i32_w]
                            rfl
                           refine take_ (i := 2) (N := some 94) (v := ?_) (a' := ?_) #[true, true, true, true, false, false, false, false, true, true, false, false, false] rfl rfl (take_ofW HT_.out HW_.out (by kernel_rfl)) (fun _ _ _ h => h) (Or.inl ⟨by rfl, ?_⟩) hHeld ?_ ?_
                           rotate_left
                           ·rintro w' ⟨s0, s1, s2, s3, s4, s5, s6⟩
                            go_simp
                            with_reducible rfl
                           rotate_left
                           ·simp only [Act.put, List.setIfInBounds_toArray, List.set_cons_zero, List.set_cons_succ, i64_w, i32_w]
                            rfl
                           refine pure_ (i := 4) (N := some 96) (v := ?_) (a' := ?_) #[true, true, true, true, true, false, false, false, true, true, false, false, false] rfl rfl (any_of HT_.out (by kernel_rfl)) (fun _ _ _ h => h) (Or.inl ⟨by rfl, ?_⟩) ?_ ?_
                           rotate_left
                           ·intro w'
                            go_simp
                            with_reducible rfl
                           rotate_left
                           ·simp only [Act.put, List.setIfInBounds_toArray, List.set_cons_zero, List.set_cons_succ, i64_w, i32_w]
                            rfl
                           refine take_ (i := 5) (N := some 97) (v := ?_) (a' := ?_) #[true, true, true, true, true, true, false, false, true, true, false, false, false] rfl rfl (take_ofW HT_.out HW_.out (by kernel_rfl)) (fun _ _ _ h => h) (Or.inl ⟨by rfl, ?_⟩) hHeld ?_ ?_
                           rotate_left
                           ·rintro w' ⟨s0, s1, s2, s3, s4, s5, s6⟩
                            go_simp
                            with_reducible rfl
                           rotate_left
                           ·simp only [Act.put, List.setIfInBounds_toArray, List.set_cons_zero, List.set_cons_succ, i64_w, i32_w]
                            rfl
                           refine pure_ (i := 6) (N := some 98) (v := ?_) (a' := ?_) #[true, true, true, true, true, true, true, false, true, true, false, false, false] rfl rfl (any_of HT_.out (by kernel_rfl)) (fun _ _ _ h => h) (Or.inl ⟨by rfl, ?_⟩) ?_ ?_
                           rotate_left
                           ·intro w'
                            go_simp
                            with_reducible rfl
                           rotate_left
                           ·simp only [Act.put, List.setIfInBounds_toArray, List.set_cons_zero, List.set_cons_succ, i64_w, i32_w]
                            rfl
                           refine take_ (i := 7) (N := some 99) (v := ?_) (a' := ?_) #[true, true, true, true, true, true, true, true, true, true, false, false, false] rfl rfl (take_ofW HT_.out HW_.out (by kernel_rfl)) (fun _ _ _ h => h) (Or.inl ⟨by rfl, ?_⟩) hHeld ?_ ?_
                           rotate_left
                           ·rintro w' ⟨s0, s1, s2, s3, s4, s5, s6⟩
                            go_simp
                            with_reducible rfl
                           rotate_left
                           ·simp only [Act.put, List.setIfInBounds_toArray, List.set_cons_zero, List.set_cons_succ, i64_w, i32_w]
                            rfl
                           refine take_ (i := 10) (N := some 102) (v := ?_) (a' := ?_) #[true, true, true, true, true, true, true, true, true, true, true, false, false] rfl rfl (take_ofW HT_.out HW_.out (by kernel_rfl)) (fun _ _ _ h => h) (Or.inl ⟨by rfl, ?_⟩) hHeld ?_ ?_
                           rotate_left
                           ·rintro w' ⟨s0, s1, s2, s3, s4, s5, s6⟩
                            go_simp
                            with_reducible rfl
                           rotate_left
                           ·simp only [Act.put, List.setIfInBounds_toArray, List.set_cons_zero, List.set_cons_succ, i64_w, i32_w]
                            rfl
                           refine pure_ (i := 11) (N := some 103) (v := ?_) (a' := ?_) #[true, true, true, true, true, true, true, true, true, true, true, true, false] rfl rfl (any_of HT_.out (by kernel_rfl)) (fun _ _ _ h => h) (Or.inl ⟨by rfl, ?_⟩) ?_ ?_
                           rotate_left
                           ·intro w'
                            go_simp
                            with_reducible rfl
                           rotate_left
                           ·simp only [Act.put, List.setIfInBounds_toArray, List.set_cons_zero, List.set_cons_succ, i64_w, i32_w]
                            rfl
                           refine last_ (i := 12) (N := none) #[true, true, true, true, true, true, true, true, true, true, true, true, true] rfl rfl (one_of HT_.out (by kernel_rfl)) (by decide) (fun K hK => ?_)
                           refine skip_ (w1 := ?_) (by rfl) rfl ?_ ?_
                           rotate_left
                           ·go_simp
                            rfl
                           refine hK.out _ _ ?_
                           clear hK K
                           refine done_ (done_of HT_.out (by kernel_rfl)) ?_
                           try go_wp2
                           go_roundg k6
                           case measure => have := HJ2.out; have := HK2.out; have := HK3.out; have := HJ28.out; have := HK5.out; have := HK6.out; omega
                           case rel => exact ⟨(y317), (wrap64 (x14_6 + 1)), (by first | rfl | (simp; done) | (simp [*]; done)), H', ⟨by have := HJ2.out; have := HK2.out; have := HK3.out; have := HJ28.out; have := HK5.out; have := HK6.out; omega⟩, ⟨by (with_reducible repeat (first | apply yE | apply yF | apply yG)); exact HQ53.out⟩, ⟨by (with_reducible repeat (first | refine zG ?_ _ | refine zH ?_ | refine zD ?_ _)); refine blk_far ?_ (by have h_ := Kd.R_ne HL314_0.out BK290.out (by decide); intro e_; exact h_ (by rw [e_]; rfl)) _; (with_reducible repeat (first | refine zG ?_ _ | refine zH ?_ | refine zD ?_ _)); exact BK290.out⟩, ⟨by (with_reducible repeat (first | refine zG ?_ _ | refine zH ?_ | refine zD ?_ _)); refine blk_far ?_ (by have h_ := Kd.R_ne HL314_0.out BK305.out (by decide); intro e_; exact h_ (by rw [e_]; rfl)) _; (with_reducible repeat (first | refine zG ?_ _ | refine zH ?_ | refine zD ?_ _)); exact BK305.out⟩, ⟨by repeat (first | (with_reducible first | exact HB.out | apply zC | apply zB | apply zF | refine zE ?_ GB48.out | refine zE ?_ GE290.out | refine zE ?_ GE305.out) | exact HB.out)⟩⟩
                          ·rw [if_neg c47] at H
                           have c47b0 : ((rd (rd_L3 x6_6 (rd ((rd_T38 l1 x10_3).f0) x13_5)) x14_6) == x12_28) = false := beq_eq_false_iff_ne.mpr c47
                           have c47b1 : ((rd (rd_L3 x6_6 (rd ((rd_T38 l1 x10_3).f0) x13_5)) x14_6) != x12_28) = true := bne_iff_ne.mpr c47
                           obtain ⟨y318, hy318⟩ : ∃ y_ : List (List Int), y_ = (([] : List (List Int))) := ⟨_, rfl⟩
                           replace H : (some (y318, false)) = some (r1, r2) := by first | (rw [hy318]; with_reducible exact H) | (have H2_ := (zS _ _).symm.trans H; rw [hy318]; with_reducible exact H2_) | (have H2_ := (zS _ _).symm.trans H; with_reducible exact H2_) | with_reducible exact H | (rw [hy318]; exact H) | exact H
                           have Ny318 := zA hy318
                           clear hy318
                           simp only [Option.some.injEq, Prod.mk.injEq] at H
                           obtain ⟨rfl, rfl⟩ := H
                           have hnb55 := NB305_290.out
                           have hnc55 := NB290_305.out
                           have hcz56_0 : wr.cell? ⟨gb305, 0, none⟩ = some (.slice A304_0 ((rd_T38 l1 x10_3).f0).length c304_0) := (zK BK305.out 0).trans rfl
                           have hcz56_1 : wr.cell? ⟨gb305, 1, none⟩ = some (.int .i64 ((rd_T38 l1 x10_3).f1)) := (zK BK305.out 1).trans rfl
                           have hcz56_2 : wr.cell? ⟨gb305, 2, none⟩ = some (.int .i64 ((rd_T38 l1 x10_3).f2)) := (zK BK305.out 2).trans rfl
                           have hcz56_3 : wr.cell? ⟨gb305, 3, none⟩ = some (.int .i64 ((rd_T38 l1 x10_3).f3)) := (zK BK305.out 3).trans rfl
                           have hcz56_4 : wr.cell? ⟨gb305, 4, none⟩ = some (.int .i64 ((rd_T38 l1 x10_3).f4)) := (zK BK305.out 4).trans rfl
                           have hfz56_0 := zJ BK305.out 0
                           have hfz56_1 := zJ BK305.out 1
                           have hfz56_2 := zJ BK305.out 2
                           have hfz56_3 := zJ BK305.out 3
                           have hfz56_4 := zJ BK305.out 4
                           have p310 : 0 ≤ (x13_5 : Int) := zI (by first | (with_reducible assumption) | assumption)
                           have q310 : x13_5 < (((rd_T38 l1 x10_3).f0).length : Int) := zI (by first | (with_reducible assumption) | assumption)
                           obtain ⟨ad310, e310, hx310_0⟩ := Kd.at_int HR304_0.out x13_5 p310 q310
                           cases e310
                           replace hx310_0 := (HB.out.cell (World.block_lt_of_cell? w _ hx310_0)).trans hx310_0
                           replace p310 := eq_true p310
                           replace q310 := eq_true q310
                           obtain ⟨Ao57, co57, eo57⟩ := Kd.S_slice HO_6.out
                           subst eo57
                           have p311 : 0 ≤ ((rd ((rd_T38 l1 x10_3).f0) x13_5) : Int) := zI (by first | (with_reducible assumption) | assumption)
                           have q311 : (rd ((rd_T38 l1 x10_3).f0) x13_5) < (x6_6.length : Int) := zI (by first | (with_reducible assumption) | assumption)
                           obtain ⟨ad311, A311_0, c311_0, e311, hx311_0, hl311_0, hi311_0⟩ := at_L3 (Kd.S_reads' HO_6.out).2.2 (rd ((rd_T38 l1 x10_3).f0) x13_5) p311 q311
                           cases e311
                           obtain ⟨ce311, hce311, hMe311, hcc311⟩ := Kd.S_get HO_6.out [] (rd ((rd_T38 l1 x10_3).f0) x13_5) p311 (by first | exact q311 | exact zI (by first | (with_reducible assumption) | assumption) | (have e_ := (Kd.S_reads' HO_6.out).1; omega))
                           obtain ⟨ve311_0, rfl, ge311_0⟩ := hMe311
                           have hv311_0 := hcc311 0 _ rfl
                           rw [Nat.add_zero, show ((Kd.slice 3 (Kd.int .i64))).sz = 1 from rfl, Nat.mul_one] at hv311_0
                           replace hv311_0 := Option.some.inj (hv311_0.symm.trans hx311_0)
                           rw [hv311_0] at ge311_0
                           have HL311_0 := zA (show Kd.R (Kd.int .i64) 3 _ _ _ _ (rd_L3 x6_6 (rd ((rd_T38 l1 x10_3).f0) x13_5)) from ge311_0)
                           clear hv311_0 ge311_0
                           have HX311_0 := zA hx311_0
                           clear hcc311 hce311
                           have HR311_0 := zA hi311_0
                           have HC311_0 := zA hl311_0
                           clear hi311_0 hl311_0
                           replace p311 := eq_true p311
                           replace q311 := eq_true q311
                           have p312 : 0 ≤ (x14_6 : Int) := zI (by first | (with_reducible assumption) | assumption)
                           have q312 : x14_6 < ((rd_L3 x6_6 (rd ((rd_T38 l1 x10_3).f0) x13_5)).length : Int) := zI (by first | (with_reducible assumption) | assumption)
                           obtain ⟨ad312, e312, hx312_0⟩ := Kd.at_int (by repeat (first | (with_reducible exact HR311_0.out) | (with_reducible refine yN ?_ _) | (with_reducible refine yL ?_ _) | (with_reducible refine yM ?_) | exact HR311_0.out)) x14_6 p312 q312
                           cases e312
                           replace p312 := eq_true p312
                           replace q312 := eq_true q312
                           go_wp2_with (first | ((with_reducible refine gate_dst (N := 91) rfl ?_); (try (refine gate_guard (by rfl) ?_; dsimp only)); refine Kd.S_lit (Kd.slice 3 (Kd.int .i64)) _ 36 ?hg (N := 91) ?hd (xs := ([] : List (List Int))) (inner := []) (ok := fun _ => True) (okp := fun _ => True) ?hr ?hp (fun _ hk => hk) trivial (Below.refl _ _) (Nat.le_refl _) (by simp) ?_; (case hd => rfl); (case hg => rfl); (case hr => first | (go_simp; done) | (go_simp; rfl)); (case hp => exact (Reps.none _ _)); intro v319 w58 ho59 hb hg_ hnew_; clear hg_ hnew_; (first | rw [← Ny318.out] at ho59 | (simp only [Int.reduceToNat] at ho59; rw [← Ny318.out] at ho59)); have n0_ := zA (Kd.S_elder' (by (with_reducible repeat (first | apply yE | apply yF | apply yG)); exact HO_6.out) (Kd.S_base ho59) hb); have n1_ := zA (Kd.R_below (by (with_reducible repeat (first | apply zN | apply zM | apply zO)); exact HL311_0.out) hb); have n2_ := zA (Kd.S_lower (Kd.S_new' (Kd.S_new' ho59 (Kd.S_lt (by (with_reducible repeat (first | apply yE | apply yF | apply yG)); exact HO_6.out))) (Kd.R_lt (by (with_reducible repeat (first | apply zN | apply zM | apply zO)); exact HL311_0.out))) (zL (by repeat (first | (with_reducible first | exact HB.out | apply zC | apply zB | apply zF | refine zE ?_ GE290.out | refine zE ?_ GE305.out) | exact HB.out)))); have n3_ := zA (blk_below (g := gb290) (o := .cells #[.int .i64 a0_0, .int .i64 a0_1, .int .i64 a0_2, .int .i64 a0_3, .slice A0_4 l0_4.length c0_4] 26 (0, 0)) (by (with_reducible repeat (first | refine zG ?_ _ | refine zH ?_ | refine zD ?_ _)); exact BK290.out) hb); have n4_ := zA (blk_below (g := gb305) (o := .cells #[.slice (some ad310) ((rd_T38 l1 x10_3).f0).length c304_0, .int .i64 ((rd_T38 l1 x10_3).f1), .int .i64 ((rd_T38 l1 x10_3).f2), .int .i64 ((rd_T38 l1 x10_3).f3), .int .i64 ((rd_T38 l1 x10_3).f4)] 38 (0, 0)) (by (with_reducible repeat (first | refine zG ?_ _ | refine zH ?_ | refine zD ?_ _)); exact BK305.out) hb); have n5_ := zA (Kd.C_below (by repeat (first | (with_reducible exact HR311_0.out) | (with_reducible refine yN ?_ _) | (with_reducible refine yL ?_ _) | (with_reducible refine yM ?_) | exact HR311_0.out)) hb); have n6_ := zA (pw_cell_below hb HX311_0.out); have n7_ := zA (below_step (by repeat (first | (with_reducible first | exact HB.out | apply zC | apply zB | apply zF | refine zE ?_ GE290.out | refine zE ?_ GE305.out) | exact HB.out)) hb); clear HO_6; clear HL311_0; clear BK290; clear BK305; clear HR311_0; clear HX311_0; clear HB; have HO_6 := n0_; have HL311_0 := n1_; have HO320 := n2_; have BK290 := n3_; have BK305 := n4_; have HR311_0 := n5_; have HX311_0 := n6_; have HB := n7_; clear n0_ n1_ n2_ n3_ n4_ n5_ n6_ n7_; clear hb ho59))
                           go_ret2
                           exact ⟨_, by first | rfl | (simp [errW_none, errW_some] <;> rfl) | (simp [*, errW_none, errW_some] <;> rfl), by (with_reducible repeat (first | apply yE | apply yF | apply yG)); exact yH HO320.out (fun _ hk => trivial), by repeat (first | (with_reducible first | exact HB.out | apply zC | apply zB | apply zF | refine zE ?_ GE290.out | refine zE ?_ GE305.out) | exact HB.out)⟩
                         ·rw [if_neg c46] at H
                          exact absurd H (by simp)
                        ·rw [if_neg c45] at H
                         exact absurd H (by simp)
                       ·rw [if_neg c44] at H
                        exact absurd H (by simp)
                      ·rw [if_neg c43] at H
                       exact absurd H (by simp)
                     ·rw [if_neg c42] at H
                      exact absurd H (by simp)
                    ·rw [if_neg c41] at H
                     exact absurd H (by simp)
                   ·rw [if_neg c40] at H
                    have c40b0 : decide (x14_6 ≤ ((rd_T38 l1 x10_3).f2)) = false := decide_eq_false c40
                    clear c40
                    have H' := zA H
                    clear H
                    have hnb60 := NB305_290.out
                    have hnc60 := NB290_305.out
                    have hcz61_0 : wr.cell? ⟨gb305, 0, none⟩ = some (.slice A304_0 ((rd_T38 l1 x10_3).f0).length c304_0) := (zK BK305.out 0).trans rfl
                    have hcz61_1 : wr.cell? ⟨gb305, 1, none⟩ = some (.int .i64 ((rd_T38 l1 x10_3).f1)) := (zK BK305.out 1).trans rfl
                    have hcz61_2 : wr.cell? ⟨gb305, 2, none⟩ = some (.int .i64 ((rd_T38 l1 x10_3).f2)) := (zK BK305.out 2).trans rfl
                    have hcz61_3 : wr.cell? ⟨gb305, 3, none⟩ = some (.int .i64 ((rd_T38 l1 x10_3).f3)) := (zK BK305.out 3).trans rfl
                    have hcz61_4 : wr.cell? ⟨gb305, 4, none⟩ = some (.int .i64 ((rd_T38 l1 x10_3).f4)) := (zK BK305.out 4).trans rfl
                    have hfz61_0 := zJ BK305.out 0
                    have hfz61_1 := zJ BK305.out 1
                    have hfz61_2 := zJ BK305.out 2
                    have hfz61_3 := zJ BK305.out 3
                    have hfz61_4 := zJ BK305.out 4
                    go_wp2
                    go_roundg k6
                    case measure => have := HJ2.out; have := HK2.out; have := HK3.out; have := HJ28.out; have := HK5.out; have := HK6.out; omega
                    case rel => exact ⟨(x6_6), (wrap64 (x13_5 + 1)), (by first | rfl | (simp; done) | (simp [*]; done)), H', ⟨by have := HJ2.out; have := HK2.out; have := HK3.out; have := HJ28.out; have := HK5.out; have := HK6.out; omega⟩, ⟨by (with_reducible repeat (first | apply yE | apply yF | apply yG)); exact HO_6.out⟩, ⟨by (with_reducible repeat (first | refine zG ?_ _ | refine zH ?_ | refine zD ?_ _)); exact BK290.out⟩, ⟨by (with_reducible repeat (first | refine zG ?_ _ | refine zH ?_ | refine zD ?_ _)); exact BK305.out⟩, ⟨by repeat (first | (with_reducible first | exact HB.out | apply zC | apply zB | apply zF | refine zE ?_ GE290.out | refine zE ?_ GE305.out) | exact HB.out)⟩⟩
                ·rw [if_neg c37] at H
                 have c37b0 : decide (x13_5 < (((rd_T38 l1 x10_3).f0).length : Int)) = false := decide_eq_false c37
                 clear c37
                 have H' := zA H
                 clear H
                 have hnb62 := NB305_290.out
                 have hnc62 := NB290_305.out
                 have hcz63_0 : wr.cell? ⟨gb305, 0, none⟩ = some (.slice A304_0 ((rd_T38 l1 x10_3).f0).length c304_0) := (zK BK305.out 0).trans rfl
                 have hcz63_1 : wr.cell? ⟨gb305, 1, none⟩ = some (.int .i64 ((rd_T38 l1 x10_3).f1)) := (zK BK305.out 1).trans rfl
                 have hcz63_2 : wr.cell? ⟨gb305, 2, none⟩ = some (.int .i64 ((rd_T38 l1 x10_3).f2)) := (zK BK305.out 2).trans rfl
                 have hcz63_3 : wr.cell? ⟨gb305, 3, none⟩ = some (.int .i64 ((rd_T38 l1 x10_3).f3)) := (zK BK305.out 3).trans rfl
                 have hcz63_4 : wr.cell? ⟨gb305, 4, none⟩ = some (.int .i64 ((rd_T38 l1 x10_3).f4)) := (zK BK305.out 4).trans rfl
                 have hfz63_0 := zJ BK305.out 0
                 have hfz63_1 := zJ BK305.out 1
                 have hfz63_2 := zJ BK305.out 2
                 have hfz63_3 := zJ BK305.out 3
                 have hfz63_4 := zJ BK305.out 4
                 go_wp2
                 go_roundg k5
                 case measure => have := HJ2.out; have := HK2.out; have := HK3.out; have := HJ28.out; have := HK5.out; omega
                 case rel => exact ⟨(x6_5), (wrap64 (x10_3 + 1)), (by first | rfl | (simp; done) | (simp [*]; done)), H', ⟨by have := HJ2.out; have := HK2.out; have := HK3.out; have := HJ28.out; have := HK5.out; omega⟩, ⟨by (with_reducible repeat (first | apply yE | apply yF | apply yG)); exact HO_6.out⟩, ⟨by (with_reducible repeat (first | refine zG ?_ _ | refine zH ?_ | refine zD ?_ _)); exact BK290.out⟩, ⟨by repeat (first | (with_reducible first | exact HB.out | apply zC | apply zB | apply zF | refine zE ?_ GE290.out | refine zE ?_ GE305.out) | exact HB.out)⟩⟩
           ·replace c28 := Bool.eq_false_iff.mpr c28
            subst c28
            have H1 : (some ((([] : List (List Int))), false)) = some (r1, r2) := by rw [if_neg (show ¬ (false = true) by decide)] at H; exact H
            clear H
            have H := H1
            clear H1
            obtain ⟨y307, hy307⟩ : ∃ y_ : List (List Int), y_ = (([] : List (List Int))) := ⟨_, rfl⟩
            replace H : (some (y307, false)) = some (r1, r2) := by first | (rw [hy307]; with_reducible exact H) | (have H2_ := (zS _ _).symm.trans H; rw [hy307]; with_reducible exact H2_) | (have H2_ := (zS _ _).symm.trans H; with_reducible exact H2_) | with_reducible exact H | (rw [hy307]; exact H) | exact H
            have Ny307 := zA hy307
            clear hy307
            simp only [Option.some.injEq, Prod.mk.injEq] at H
            obtain ⟨rfl, rfl⟩ := H
            have p304 : 0 ≤ (x10_3 : Int) := zI (by first | (with_reducible assumption) | assumption)
            have q304 : x10_3 < (l1.length : Int) := zI (by first | (with_reducible assumption) | assumption)
            obtain ⟨ad304, A304_0, c304_0, e304, hx304_0, hx304_1, hx304_2, hx304_3, hx304_4, hl304_0, hi304_0⟩ := at_T38 HR1.out x10_3 p304 q304
            cases e304
            replace hx304_0 := (HB.out.cell (World.block_lt_of_cell? w _ hx304_0)).trans hx304_0
            replace hx304_1 := (HB.out.cell (World.block_lt_of_cell? w _ hx304_1)).trans hx304_1
            replace hx304_2 := (HB.out.cell (World.block_lt_of_cell? w _ hx304_2)).trans hx304_2
            replace hx304_3 := (HB.out.cell (World.block_lt_of_cell? w _ hx304_3)).trans hx304_3
            replace hx304_4 := (HB.out.cell (World.block_lt_of_cell? w _ hx304_4)).trans hx304_4
            have HR304_0 := zA hi304_0
            have HC304_0 := zA hl304_0
            clear hi304_0 hl304_0
            replace p304 := eq_true p304
            replace q304 := eq_true q304
            go_wp2_with (first | ((with_reducible refine gate_dst (N := 11) rfl ?_); (try (refine gate_guard (by rfl) ?_; dsimp only)); refine box_event ?hg (N := 11) ?hd (cs := #[.slice none 0 0, .int .i64 0, .int .i64 0, .int .i64 0, .int .i64 0]) (t := 38) ?hr ?_; (case hd => rfl); (case hg => rfl); (case hr => first | (go_simp; done) | (go_simp; rfl)); intro gb305 hg w64 hbox hb; have n0_ := zA (Kd.S_below (by (with_reducible repeat (first | apply yE | apply yF | apply yG)); exact HO_6.out) hb); have n1_ := zA (blk_below (g := gb290) (o := .cells #[.int .i64 a0_0, .int .i64 a0_1, .int .i64 a0_2, .int .i64 a0_3, .slice A0_4 l0_4.length c0_4] 26 (0, 0)) (by (with_reducible repeat (first | refine zG ?_ _ | refine zH ?_ | refine zD ?_ _)); exact BK290.out) hb); have n2_ := zA (below_step (by repeat (first | (with_reducible first | exact HB.out | apply zC | apply zB | apply zF | refine zE ?_ GE290.out) | exact HB.out)) hb); have n3_ := zA (hbox); have n4_ := zA ((by rw [hg]; exact (zL (by repeat (first | (with_reducible first | exact HB.out | apply zC | apply zB | apply zF | refine zE ?_ GE290.out) | exact HB.out))) : w.heap.size ≤ gb305)); have n5_ := zA ((by rw [hg]; exact (zL (by repeat (first | (with_reducible first | exact HB.out | apply zC | apply zB | apply zF | refine zE ?_ GE290.out) | exact HB.out))) : w.heap.size ≤ gb305)); have n6_ := zA ((by rw [hg]; exact Nat.ne_of_lt (blk_lt (g := gb290) (o := .cells #[.int .i64 a0_0, .int .i64 a0_1, .int .i64 a0_2, .int .i64 a0_3, .slice A0_4 l0_4.length c0_4] 26 (0, 0)) (by (with_reducible repeat (first | refine zG ?_ _ | refine zH ?_ | refine zD ?_ _)); exact BK290.out)) : gb290 ≠ gb305)); have n7_ := zA ((by rw [hg]; exact Nat.ne_of_gt (blk_lt (g := gb290) (o := .cells #[.int .i64 a0_0, .int .i64 a0_1, .int .i64 a0_2, .int .i64 a0_3, .slice A0_4 l0_4.length c0_4] 26 (0, 0)) (by (with_reducible repeat (first | refine zG ?_ _ | refine zH ?_ | refine zD ?_ _)); exact BK290.out)) : gb305 ≠ gb290)); clear HO_6; clear BK290; clear HB; have HO_6 := n0_; have BK290 := n1_; have HB := n2_; have BK305 := n3_; have GW305 := n4_; have GE305 := n5_; have NB290_305 := n6_; have NB305_290 := n7_; clear n0_ n1_ n2_ n3_ n4_ n5_ n6_ n7_; clear hb hbox hg; have hnb65 := NB305_290.out; have hnc65 := NB290_305.out; have hcz66_0 : w64.cell? ⟨gb305, 0, none⟩ = some (.slice none 0 0) := (zK BK305.out 0).trans rfl; have hcz66_1 : w64.cell? ⟨gb305, 1, none⟩ = some (.int .i64 0) := (zK BK305.out 1).trans rfl; have hcz66_2 : w64.cell? ⟨gb305, 2, none⟩ = some (.int .i64 0) := (zK BK305.out 2).trans rfl; have hcz66_3 : w64.cell? ⟨gb305, 3, none⟩ = some (.int .i64 0) := (zK BK305.out 3).trans rfl; have hcz66_4 : w64.cell? ⟨gb305, 4, none⟩ = some (.int .i64 0) := (zK BK305.out 4).trans rfl; have hfz66_0 := zJ BK305.out 0; have hfz66_1 := zJ BK305.out 1; have hfz66_2 := zJ BK305.out 2; have hfz66_3 := zJ BK305.out 3; have hfz66_4 := zJ BK305.out 4; have hcz67_0 : w64.cell? ⟨gb290, 0, none⟩ = some (.int .i64 a0_0) := (zK BK290.out 0).trans rfl; have hcz67_1 : w64.cell? ⟨gb290, 1, none⟩ = some (.int .i64 a0_1) := (zK BK290.out 1).trans rfl; have hcz67_2 : w64.cell? ⟨gb290, 2, none⟩ = some (.int .i64 a0_2) := (zK BK290.out 2).trans rfl; have hcz67_3 : w64.cell? ⟨gb290, 3, none⟩ = some (.int .i64 a0_3) := (zK BK290.out 3).trans rfl; have hcz67_4 : w64.cell? ⟨gb290, 4, none⟩ = some (.slice A0_4 l0_4.length c0_4) := (zK BK290.out 4).trans rfl; have hfz67_0 := zJ BK290.out 0; have hfz67_1 := zJ BK290.out 1; have hfz67_2 := zJ BK290.out 2; have hfz67_3 := zJ BK290.out 3; have hfz67_4 := zJ BK290.out 4) | ((with_reducible refine gate_callee (f := 116) rfl ?_); refine goesL_ (some 56) rfl rfl Try.func116 (by kernel_rfl) rfl #[.agg #[.int .i64 a0_0, .int .i64 a0_1, .int .i64 a0_2, .int .i64 a0_3, .slice A0_4 l0_4.length c0_4], .agg #[.slice A304_0 ((rd_T38 l1 x10_3).f0).length c304_0, .int .i64 ((rd_T38 l1 x10_3).f1), .int .i64 ((rd_T38 l1 x10_3).f2), .int .i64 ((rd_T38 l1 x10_3).f3), .int .i64 ((rd_T38 l1 x10_3).f4)]] rfl (by (try simp only [zU, zV, zW]); first | done | rfl | (simp only [zR, zQ]; rfl)) ?_; (with_reducible refine (spec_ScanOk.calls k3 a0_0 a0_1 a0_2 a0_3 _ _ l0_4 _ _ ((rd_T38 l1 x10_3).f0) ((rd_T38 l1 x10_3).f1) ((rd_T38 l1 x10_3).f2) ((rd_T38 l1 x10_3).f3) ((rd_T38 l1 x10_3).f4) false _ ?side1 ?side2 ?side3 ?side4 A27.out).mono ?_); (case side1 => exact Kd.C_below HR0_4.out (by repeat (first | (with_reducible first | exact HB.out | apply zC | apply zB | apply zF | refine zE ?_ GE290.out | refine zE ?_ GE305.out) | exact HB.out))); (case side2 => exact HC0_4.out); (case side3 => exact Kd.C_below HR304_0.out (by repeat (first | (with_reducible first | exact HB.out | apply zC | apply zB | apply zF | refine zE ?_ GE290.out | refine zE ?_ GE305.out) | exact HB.out))); (case side4 => exact HC304_0.out); rintro e w68 ⟨rfl, hb⟩; refine ⟨_, rfl, ?_⟩; have n0_ := zA (Kd.S_below (by (with_reducible repeat (first | apply yE | apply yF | apply yG)); exact (yH (yI (p := ⟨gb305, 4, none⟩) (yI (p := ⟨gb305, 3, none⟩) (yI (p := ⟨gb305, 2, none⟩) (yI (p := ⟨gb305, 1, none⟩) (yI (p := ⟨gb305, 0, none⟩) (Kd.S_types HO_6.out BK305.out (by decide)) (fun _ hk => hk.2) (.slice A304_0 ((rd_T38 l1 x10_3).f0).length c304_0)) (fun _ hk => hk.2) (.int .i64 ((rd_T38 l1 x10_3).f1))) (fun _ hk => hk.2) (.int .i64 ((rd_T38 l1 x10_3).f2))) (fun _ hk => hk.2) (.int .i64 ((rd_T38 l1 x10_3).f3))) (fun _ hk => hk.2) (.int .i64 ((rd_T38 l1 x10_3).f4))) (fun _ h_ => h_.1))) hb); have n1_ := zA (blk_below (g := gb290) (o := .cells #[.int .i64 a0_0, .int .i64 a0_1, .int .i64 a0_2, .int .i64 a0_3, .slice A0_4 l0_4.length c0_4] 26 (0, 0)) (by (with_reducible repeat (first | refine zG ?_ _ | refine zH ?_ | refine zD ?_ _)); refine blk_far ?_ NB290_305.out _; (with_reducible repeat (first | refine zG ?_ _ | refine zH ?_ | refine zD ?_ _)); refine blk_far ?_ NB290_305.out _; (with_reducible repeat (first | refine zG ?_ _ | refine zH ?_ | refine zD ?_ _)); refine blk_far ?_ NB290_305.out _; (with_reducible repeat (first | refine zG ?_ _ | refine zH ?_ | refine zD ?_ _)); refine blk_far ?_ NB290_305.out _; (with_reducible repeat (first | refine zG ?_ _ | refine zH ?_ | refine zD ?_ _)); refine blk_far ?_ NB290_305.out _; (with_reducible repeat (first | refine zG ?_ _ | refine zH ?_ | refine zD ?_ _)); exact BK290.out) hb); have n2_ := zA (blk_below (g := gb305) (o := .cells #[.slice A304_0 ((rd_T38 l1 x10_3).f0).length c304_0, .int .i64 ((rd_T38 l1 x10_3).f1), .int .i64 ((rd_T38 l1 x10_3).f2), .int .i64 ((rd_T38 l1 x10_3).f3), .int .i64 ((rd_T38 l1 x10_3).f4)] 38 (0, 0)) (by (with_reducible repeat (first | refine zG ?_ _ | refine zH ?_ | refine zD ?_ _)); refine blk_put (cs := #[.slice A304_0 ((rd_T38 l1 x10_3).f0).length c304_0, .int .i64 ((rd_T38 l1 x10_3).f1), .int .i64 ((rd_T38 l1 x10_3).f2), .int .i64 ((rd_T38 l1 x10_3).f3), .int .i64 0]) ?_ 4 _ rfl; (with_reducible repeat (first | refine zG ?_ _ | refine zH ?_ | refine zD ?_ _)); refine blk_put (cs := #[.slice A304_0 ((rd_T38 l1 x10_3).f0).length c304_0, .int .i64 ((rd_T38 l1 x10_3).f1), .int .i64 ((rd_T38 l1 x10_3).f2), .int .i64 0, .int .i64 0]) ?_ 3 _ rfl; (with_reducible repeat (first | refine zG ?_ _ | refine zH ?_ | refine zD ?_ _)); refine blk_put (cs := #[.slice A304_0 ((rd_T38 l1 x10_3).f0).length c304_0, .int .i64 ((rd_T38 l1 x10_3).f1), .int .i64 0, .int .i64 0, .int .i64 0]) ?_ 2 _ rfl; (with_reducible repeat (first | refine zG ?_ _ | refine zH ?_ | refine zD ?_ _)); refine blk_put (cs := #[.slice A304_0 ((rd_T38 l1 x10_3).f0).length c304_0, .int .i64 0, .int .i64 0, .int .i64 0, .int .i64 0]) ?_ 1 _ rfl; (with_reducible repeat (first | refine zG ?_ _ | refine zH ?_ | refine zD ?_ _)); refine blk_put (cs := #[.slice none 0 0, .int .i64 0, .int .i64 0, .int .i64 0, .int .i64 0]) ?_ 0 _ rfl; (with_reducible repeat (first | refine zG ?_ _ | refine zH ?_ | refine zD ?_ _)); exact BK305.out) hb); have n3_ := zA (below_step (by repeat (first | (with_reducible first | exact HB.out | apply zC | apply zB | apply zF | refine zE ?_ GE290.out | refine zE ?_ GE305.out) | exact HB.out)) hb); clear HO_6; clear BK290; clear BK305; clear HB; have HO_6 := n0_; have BK290 := n1_; have BK305 := n2_; have HB := n3_; clear n0_ n1_ n2_ n3_; (try clear hb); (try clear hb2); (try clear hk); (try clear hi)) | ((with_reducible refine gate_dst (N := 58) rfl ?_); (try (refine gate_guard (by rfl) ?_; dsimp only)); refine Kd.S_lit (Kd.slice 3 (Kd.int .i64)) _ 36 ?hg (N := 58) ?hd (xs := ([] : List (List Int))) (inner := []) (ok := fun _ => True) (okp := fun _ => True) ?hr ?hp (fun _ hk => hk) trivial (Below.refl _ _) (Nat.le_refl _) (by simp) ?_; (case hd => rfl); (case hg => rfl); (case hr => first | (go_simp; done) | (go_simp; rfl)); (case hp => exact (Reps.none _ _)); intro v308 w69 ho70 hb hg_ hnew_; clear hg_ hnew_; (first | rw [← Ny307.out] at ho70 | (simp only [Int.reduceToNat] at ho70; rw [← Ny307.out] at ho70)); have n0_ := zA (Kd.S_elder' (by (with_reducible repeat (first | apply yE | apply yF | apply yG)); exact HO_6.out) (Kd.S_base ho70) hb); have n1_ := zA (Kd.S_lower (Kd.S_new' ho70 (Kd.S_lt (by (with_reducible repeat (first | apply yE | apply yF | apply yG)); exact HO_6.out))) (zL (by repeat (first | (with_reducible first | exact HB.out | apply zC | apply zB | apply zF | refine zE ?_ GE290.out | refine zE ?_ GE305.out) | exact HB.out)))); have n2_ := zA (blk_below (g := gb290) (o := .cells #[.int .i64 a0_0, .int .i64 a0_1, .int .i64 a0_2, .int .i64 a0_3, .slice A0_4 l0_4.length c0_4] 26 (0, 0)) (by (with_reducible repeat (first | refine zG ?_ _ | refine zH ?_ | refine zD ?_ _)); exact BK290.out) hb); have n3_ := zA (blk_below (g := gb305) (o := .cells #[.slice A304_0 ((rd_T38 l1 x10_3).f0).length c304_0, .int .i64 ((rd_T38 l1 x10_3).f1), .int .i64 ((rd_T38 l1 x10_3).f2), .int .i64 ((rd_T38 l1 x10_3).f3), .int .i64 ((rd_T38 l1 x10_3).f4)] 38 (0, 0)) (by (with_reducible repeat (first | refine zG ?_ _ | refine zH ?_ | refine zD ?_ _)); exact BK305.out) hb); have n4_ := zA (below_step (by repeat (first | (with_reducible first | exact HB.out | apply zC | apply zB | apply zF | refine zE ?_ GE290.out | refine zE ?_ GE305.out) | exact HB.out)) hb); clear HO_6; clear BK290; clear BK305; clear HB; have HO_6 := n0_; have HO309 := n1_; have BK290 := n2_; have BK305 := n3_; have HB := n4_; clear n0_ n1_ n2_ n3_ n4_; clear hb ho70))
            go_ret2
            exact ⟨_, by first | rfl | (simp [errW_none, errW_some] <;> rfl) | (simp [*, errW_none, errW_some] <;> rfl), by (with_reducible repeat (first | apply yE | apply yF | apply yG)); exact yH HO309.out (fun _ hk => trivial), by repeat (first | (with_reducible first | exact HB.out | apply zC | apply zB | apply zF | refine zE ?_ GE290.out | refine zE ?_ GE305.out) | exact HB.out)⟩
          ·rw [if_neg c26] at H
           exact absurd H (by simp)
         ·rw [if_neg c25] at H
          have c25b0 : decide (x10_3 < (l1.length : Int)) = false := decide_eq_false c25
          clear c25
          simp only [Option.some.injEq, Prod.mk.injEq] at H
          obtain ⟨rfl, rfl⟩ := H
          go_wp2
          go_ret2
          exact ⟨_, by first | rfl | (simp [errW_none, errW_some] <;> rfl) | (simp [*, errW_none, errW_some] <;> rfl), by (with_reducible repeat (first | apply yE | apply yF | apply yG)); exact HO_6.out, by repeat (first | (with_reducible first | exact HB.out | apply zC | apply zB | apply zF | refine zE ?_ GE290.out) | exact HB.out)⟩
theorem getD_rows (L : List (List Int)) (c : Nat) (h : c < L.length) : rd_L3 L (c : Int) = L.getD c [] := by simp [rd_L3]
theorem spec_l12Left.l4_ev (script : List SN) (p w h r : Int) (l : List SC) (x10 want : Int) (i : Nat) (s : SN) (n : Nat) (hi : i < s.f0.length) (c : Nat) (hc : s.f0[i] = (c : Int)) (hcn : c < n) (f t : Nat) (t63 : t ≤ 63)
  (R : Option (List (List Int))) (G : List (List Int) → Option (List (List Int))) (hG : ∀ L, Rows64 n L → G L = R → Ev (fun k => spec_l12Left.l3 k script L x10 want (wrap64 ((i : Int) + 1)) p w h r l s.f0 (f : Int) (t : Int) s.f3 s.f4) (leftRes R)) :
  ∀ (m : Nat) (k : Nat) (L : List (List Int)), k + m = t + 1 → Rows64 n L → (tellK want s.f4 c m k L).bind G = R → Ev (fun q => spec_l12Left.l4 q script L x10 want (i : Int) (k : Int) p w h r l s.f0 (f : Int) (t : Int) s.f3 s.f4) (leftRes R) := by
 intro m
 induction m with
 | zero =>
  intro k L hk hL hR
  exact Ev.step (fun _ => by rw [spec_l12Left.l4]) (Ev.ng (by omega) (hG L hL (by rw [← hR]; rfl)))
 | succ m ih =>
  intro k L hk hL hR
  have e1 : rd s.f0 (i : Int) = (c : Int) := by rw [rd_nat s.f0 i hi, hc]
  have hrow := hL.get c hcn
  have hlen : L.length = n := hL.1
  refine Ev.step (fun _ => by rw [spec_l12Left.l4]) (Ev.ip (by omega) (Ev.ip (by omega) (Ev.ip (by omega) ?_)))
  rw [e1, getD_rows L c (by omega)]
  refine Ev.ip (by omega) (Ev.ip (by omega) (Ev.ip (by omega) (Ev.ip (by omega) ?_)))
  rw [tellK] at hR
  by_cases hq : rd (L.getD c []) (k : Int) = want
  ·rw [if_pos hq] at hR
   refine Ev.ip hq ?_
   rw [wrap_succ k (by omega), Int.toNat_natCast, Int.toNat_natCast]
   exact ih (k + 1) _ (by omega) (hL.set c k s.f4 hcn) hR
  ·rw [if_neg hq] at hR
   refine Ev.ng hq (Ev.eq (Ev.now _) ?_)
   rw [← hR]; rfl
theorem spec_l12Left.l3_ev (script : List SN) (p w h r : Int) (l : List SC) (x10 want : Int) (s : SN) (n : Nat) (hs : s.f0.length ≤ 2000000) (hc : ∀ c ∈ s.f0, 0 ≤ c ∧ c < n) (f t : Nat) (ft : f ≤ t) (t63 : t ≤ 63)
  (R : Option (List (List Int))) (G : List (List Int) → Option (List (List Int))) (hG : ∀ L, Rows64 n L → G L = R → Ev (fun k => spec_l12Left.l2 k script L (wrap64 (x10 + 1)) p w h r l) (leftRes R)) :
  ∀ (d i : Nat) (L : List (List Int)), i + d = s.f0.length → Rows64 n L → (tellC want s.f4 f (t - f + 1) (s.f0.drop i) L).bind G = R → Ev (fun q => spec_l12Left.l3 q script L x10 want (i : Int) p w h r l s.f0 (f : Int) (t : Int) s.f3 s.f4) (leftRes R) := by
 intro d
 induction d with
 | zero =>
  intro i L hi hL hR
  rw [List.drop_of_length_le (by omega), tellC] at hR
  exact Ev.step (fun _ => by rw [spec_l12Left.l3]) (Ev.ng (by omega) (hG L hL hR))
 | succ d ih =>
  intro i L hi hL hR
  have hlt : i < s.f0.length := by omega
  obtain ⟨c0, c1⟩ := hc s.f0[i] (List.getElem_mem hlt)
  obtain ⟨c, hce⟩ : ∃ c : Nat, s.f0[i] = (c : Int) := ⟨s.f0[i].toNat, by omega⟩
  rw [List.drop_eq_getElem_cons hlt, tellC, hce, Int.toNat_natCast] at hR
  refine Ev.step (fun _ => by rw [spec_l12Left.l3]) (Ev.ip (by omega) ?_)
  refine spec_l12Left.l4_ev script p w h r l x10 want i s n hlt c hce (by omega) f t t63 R (fun L => (tellC want s.f4 f (t - f + 1) (s.f0.drop (i + 1)) L).bind G) (fun L2 hL2 hR2 => ?_) (t - f + 1) f L (by omega) hL (by rw [← hR, Option.bind_assoc])
  rw [wrap_succ i (by omega)]
  exact ih (i + 1) L2 (by omega) hL2 hR2
theorem spec_l12Left.l2_ev (script : List SN) (p w h r : Int) (l : List SC) (hF : frameOkM p w h r l = true) (hm : script.length ≤ 2000000) (hsl : ∀ s ∈ script, s.f0.length ≤ 2000000) :
  ∀ (d j : Nat) (L : List (List Int)), j + d = script.length → Rows64 l.length L → Ev (fun k => spec_l12Left.l2 k script L (j : Int) p w h r l) (leftRes (leftGo2 l.length (script.drop j) L)) := by
 intro d
 induction d with
 | zero =>
  intro j L hj hL
  rw [List.drop_of_length_le (by omega)]
  refine Ev.step (fun _ => by rw [spec_l12Left.l2]) (Ev.ng (by omega) (Ev.eq (Ev.now _) ?_))
  rfl
 | succ d ih =>
  intro j L hj hL
  have hlt : j < script.length := by omega
  have hx : rd_T38 script (j : Int) = script[j] := by simp [rd_T38, hlt]
  refine Ev.step (fun _ => by rw [spec_l12Left.l2]) (Ev.ip (by omega) (Ev.ip (by omega) ?_))
  rw [hx, List.drop_eq_getElem_cons hlt, leftGo2]
  obtain ⟨s, hs⟩ : ∃ s, s = script[j] := ⟨_, rfl⟩
  have hsm : s ∈ script := by rw [hs]; exact List.getElem_mem hlt
  rw [← hs]
  refine Ev.bind (spec_ScanOk.ev p w h r l s.f0 s.f1 s.f2 s.f3 s.f4 hF (hsl s hsm)) ?_
  by_cases ho : scanOkM l.length s = true
  ·rw [if_pos ho]
   refine Ev.ip ho ?_
   have ho2 := ho
   unfold scanOkM at ho2
   rw [Bool.and_eq_true] at ho2
   obtain ⟨g0, g1, g2, g3, g4, g5⟩ := pass_of ho2.2
   obtain ⟨f, hf⟩ : ∃ f : Nat, s.f1 = (f : Int) := ⟨s.f1.toNat, by omega⟩
   obtain ⟨t, ht⟩ : ∃ t : Nat, s.f2 = (t : Int) := ⟨s.f2.toNat, by omega⟩
   have go : ∀ want : Int, want = (if s.f3 > 0 then s.f3 else -1) → Ev (fun k => spec_l12Left.j4 k script L (j : Int) want p w h r l s.f0 s.f1 s.f2 s.f3 s.f4) (leftRes ((tellR s L).bind (leftGo2 l.length (script.drop (j + 1))))) := by
    intro want hw
    refine Ev.step (fun _ => by rw [spec_l12Left.j4]) ?_
    rw [hf, ht]
    refine spec_l12Left.l3_ev script p w h r l (j : Int) want s l.length (hsl s hsm) (comps_in ho2.1) f t (by omega) (by omega) _ (leftGo2 l.length (script.drop (j + 1))) (fun L2 hL2 hR2 => ?_) s.f0.length 0 L (Nat.zero_add _) hL ?_
    ·rw [wrap_succ j (by omega), ← hR2]
     exact ih (j + 1) L2 (by omega) hL2
    ·rw [List.drop_zero, tellR, hw, hf, ht, Int.toNat_natCast, show ((t : Int) - (f : Int) + 1).toNat = t - f + 1 by omega]
   by_cases h0 : s.f3 = 0
   ·exact Ev.ip h0 (go (-1) (by rw [if_neg (by omega)]))
   ·exact Ev.ng h0 (go s.f3 (by rw [if_pos (by omega)]))
  ·rw [if_neg ho]
   refine Ev.ng ho (Ev.eq (Ev.now _) ?_)
   rfl
theorem spec_l12Left.l1_ev (script : List SN) (out : List (List Int)) (p w h r : Int) (l : List SC) (i : Nat) (ho : out.length ≤ 10) (hi : i ≤ 10) (R : List (List Int) × Bool) (hR : Ev (fun k => spec_l12Left.l0 k script (out ++ [List.replicate 64 (-1)]) ((i + 1 : Nat) : Int) p w h r l) R) :
  ∀ d j : Nat, j + d = 64 → Ev (fun k => spec_l12Left.l1 k script out (i : Int) (List.replicate j (-1)) (j : Int) p w h r l) R := by
 intro d
 induction d with
 | zero =>
  intro j hj
  refine Ev.step (fun _ => by rw [spec_l12Left.l1]) (Ev.ng (by omega) (Ev.ip (by omega) ?_))
  rw [wrap_succ i (by omega), show j = 64 by omega]
  exact hR
 | succ d ih =>
  intro j hj
  refine Ev.step (fun _ => by rw [spec_l12Left.l1]) (Ev.ip (by omega) (Ev.ip (by rw [List.length_replicate]; omega) ?_))
  rw [wrap_succ j (by omega), ← List.replicate_succ']
  exact ih (j + 1) (by omega)
theorem spec_l12Left.l0_ev (script : List SN) (p w h r : Int) (l : List SC) (hl : l.length ≤ 4) (R : List (List Int) × Bool) (hR : Ev (fun k => spec_l12Left.l2 k script (untoldM l.length) 0 p w h r l) R) :
  ∀ d i : Nat, i + d = l.length → Ev (fun k => spec_l12Left.l0 k script (untoldM i) (i : Int) p w h r l) R := by
 intro d
 induction d with
 | zero =>
  intro i hi
  refine Ev.step (fun _ => by rw [spec_l12Left.l0]) (Ev.ng (by omega) ?_)
  rw [show i = l.length by omega]
  exact hR
 | succ d ih =>
  intro i hi
  refine Ev.step (fun _ => by rw [spec_l12Left.l0]) (Ev.ip (by omega) ?_)
  refine spec_l12Left.l1_ev script (untoldM i) p w h r l i (by simp [untoldM]; omega) (by omega) R ?_ 64 0 (Nat.zero_add _)
  have h2 := ih (i + 1) (by omega)
  rw [untoldM, List.replicate_succ'] at h2
  exact h2
theorem spec_l12Left.ev (script : List SN) (p w h r : Int) (l : List SC) (hm : script.length ≤ 2000000) (hsl : ∀ s ∈ script, s.f0.length ≤ 2000000) : Ev (fun k => spec_l12Left.f k p w h r l script) (leftRes (if frameOkM p w h r l = true then leftM l.length script else none)) := by
 unfold spec_l12Left.f
 refine Ev.bind (Ev.c rfl) (Ev.bind (spec_FrameOk.ev p w h r l) ?_)
 by_cases hF : frameOkM p w h r l = true
 ·rw [if_pos hF]
  refine Ev.ip hF (Ev.step (fun _ => by rw [spec_l12Left.j0]) ?_)
  by_cases h40 : script.length ≤ 40
  ·have hl := frameOk_len hF
   refine Ev.ng (by rw [decide_eq_true_eq]; omega) ?_
   have h1 := spec_l12Left.l2_ev script p w h r l hF hm hsl script.length 0 (untoldM l.length) (Nat.zero_add _) ⟨by simp [untoldM], fun x hx => by rw [(List.mem_replicate.1 hx).2]; simp⟩
   rw [List.drop_zero, leftGo2_eq] at h1
   have e : leftM l.length script = if script.all (scanOkM l.length) = true then leftGo script (untoldM l.length) else none := by
    unfold leftM
    by_cases ha : script.all (scanOkM l.length) = true
    ·rw [if_pos ha, if_pos ⟨h40, ha⟩]
    ·rw [if_neg ha, if_neg (fun q => ha q.2)]
   rw [e]
   exact spec_l12Left.l0_ev script p w h r l hl.2 _ h1 l.length 0 (Nat.zero_add _)
  ·refine Ev.ip (by rw [decide_eq_true_eq]; omega) (Ev.eq (Ev.now _) ?_)
   rw [leftM, if_neg (fun q => h40 q.1)]; rfl
 ·rw [if_neg hF]
  refine Ev.ng hF (Ev.step (fun _ => by rw [spec_l12Left.j0]) (Ev.ip rfl (Ev.eq (Ev.now _) ?_)))
  rfl
end Go.Proofs.Ytilimpjcdeeaiaa.G


namespace Go.Proofs.Ytilimpjcdeeaiaa.G
open Go.RowKit Go.Proofs.YtilimpjcdeeaiaaW.PrintWords Go.Proofs.YtilimpjcdeeaiaaW.PrintLast Go.Proofs.YtilimpjcdeeaiaaW.PrintMore
attribute [local go_sem] max2_int min2_int max_two min_two max_three min_three max_four min_four   -- for this text's walks alone
def spec_LeftOf.f (k : Nat) (a0_0 : Int) (a0_1 : Int) (a0_2 : Int) (a0_3 : Int) (l0_4 : List (S102)) (l1 : List (S38)) : Option ((List (List Int))) := (spec_l12Left.f k a0_0 a0_1 a0_2 a0_3 l0_4 l1).bind fun bt322 => (some bt322.1)
set_option maxHeartbeats 8000000 in
set_option maxRecDepth 100000 in
theorem spec_LeftOf.calls (k : Nat) (a0_0 : Int) (a0_1 : Int) (a0_2 : Int) (a0_3 : Int) (A0_4 : Option Addr) (c0_4 : Nat) (l0_4 : List (S102)) (A1 : Option Addr) (c1 : Nat) (l1 : List (S38)) (r : List (List Int)) (w : World) (hr0_4 : Kd.C k102 w A0_4 l0_4.length l0_4) (hc0_4 : l0_4.length ≤ c0_4) (hr1 : Kd.C k38 w A1 l1.length l1) (hc1 : l1.length ≤ c1) (h : spec_LeftOf.f k a0_0 a0_1 a0_2 a0_3 l0_4 l1 = some r) :
  Calls Try.prog 16 #[.agg #[.int .i64 a0_0, .int .i64 a0_1, .int .i64 a0_2, .int .i64 a0_3, .slice A0_4 l0_4.length c0_4], .slice A1 l1.length c1] w fun e w' => ∃ v0_ : Value, e = .returned (v0_) ∧ Kd.S (Kd.slice 3 (Kd.int .i64)) 36 w' w.heap.size (fun _ => True) v0_ r ∧ Below w.heap.size w w' := by
 have hu26 := Try.underlying26
 have HR0_4 := zA hr0_4
 have HC0_4 := zA hc0_4
 clear hr0_4 hc0_4
 have HR1 := zA hr1
 have HC1 := zA hc1
 clear hr1 hc1
 have HB := zA (Below.refl w.heap.size w)
 have H : ((spec_l12Left.f k a0_0 a0_1 a0_2 a0_3 l0_4 l1).bind fun bt322 => (some bt322.1)) = some r := h
 clear h
 replace H := Option.bind_eq_some_iff.mp H
 obtain ⟨⟨t322, t325⟩, A30, H⟩ := H
 replace H : (some t322) = some r := H
 have A3 := zA A30
 clear A30
 obtain rfl := Option.some.inj H
 go_enter Try.func16, Try.ntmps16
 go_wp2_with (first | ((with_reducible refine gate_dst (N := 2) rfl ?_); refine box_event ?hg (N := 2) ?hd (cs := #[.int .i64 a0_0, .int .i64 a0_1, .int .i64 a0_2, .int .i64 a0_3, .slice A0_4 l0_4.length c0_4]) (t := 26) ?hr ?_; (case hd => rfl); (case hg => rfl); (case hr => first | (go_simp; done) | (go_simp; rfl)); intro gb321 hg w4 hbox hb; have n0_ := zA (below_step (by repeat (first | (with_reducible first | exact HB.out | apply zC | apply zB | apply zF) | exact HB.out)) hb); have n1_ := zA (hbox); have n2_ := zA ((by rw [hg]; exact (zL (by repeat (first | (with_reducible first | exact HB.out | apply zC | apply zB | apply zF) | exact HB.out))) : w.heap.size ≤ gb321)); have n3_ := zA ((by rw [hg]; exact (zL (by repeat (first | (with_reducible first | exact HB.out | apply zC | apply zB | apply zF) | exact HB.out))) : w.heap.size ≤ gb321)); clear HB; have HB := n0_; have BK321 := n1_; have GW321 := n2_; have GE321 := n3_; clear n0_ n1_ n2_ n3_; clear hb hbox hg; have hcz5_0 : w4.cell? ⟨gb321, 0, none⟩ = some (.int .i64 a0_0) := (zK BK321.out 0).trans rfl; have hcz5_1 : w4.cell? ⟨gb321, 1, none⟩ = some (.int .i64 a0_1) := (zK BK321.out 1).trans rfl; have hcz5_2 : w4.cell? ⟨gb321, 2, none⟩ = some (.int .i64 a0_2) := (zK BK321.out 2).trans rfl; have hcz5_3 : w4.cell? ⟨gb321, 3, none⟩ = some (.int .i64 a0_3) := (zK BK321.out 3).trans rfl; have hcz5_4 : w4.cell? ⟨gb321, 4, none⟩ = some (.slice A0_4 l0_4.length c0_4) := (zK BK321.out 4).trans rfl; have hfz5_0 := zJ BK321.out 0; have hfz5_1 := zJ BK321.out 1; have hfz5_2 := zJ BK321.out 2; have hfz5_3 := zJ BK321.out 3; have hfz5_4 := zJ BK321.out 4) | ((with_reducible refine gate_callee (f := 61) rfl ?_); refine goesL_ (some 10) rfl rfl Try.func61 (by kernel_rfl) rfl #[.agg #[.int .i64 a0_0, .int .i64 a0_1, .int .i64 a0_2, .int .i64 a0_3, .slice A0_4 l0_4.length c0_4], .slice A1 l1.length c1] rfl (by (try simp only [zU, zV, zW]); first | done | rfl | (simp only [zR, zQ]; rfl)) ?_; (with_reducible refine (spec_l12Left.calls k a0_0 a0_1 a0_2 a0_3 _ _ l0_4 _ _ l1 t322 t325 _ ?side1 ?side2 ?side3 ?side4 A3.out).mono ?_); (case side1 => repeat (first | exact (Kd.C_below HR0_4.out HB.out) | (with_reducible refine yN ?_ _) | (with_reducible refine yL ?_ _) | (with_reducible refine yM ?_))); (case side2 => exact HC0_4.out); (case side3 => repeat (first | exact (Kd.C_below HR1.out HB.out) | (with_reducible refine yN ?_ _) | (with_reducible refine yL ?_ _) | (with_reducible refine yM ?_))); (case side4 => exact HC1.out); rintro e w6 ⟨v323, rfl, ho0, hb⟩; refine ⟨_, rfl, ?_⟩; have n0_ := zA (Kd.S_lower ho0 (zL (by repeat (first | (with_reducible first | exact HB.out | apply zC | apply zB | apply zF | refine zE ?_ GE321.out) | exact HB.out)))); have n1_ := zA (blk_below (g := gb321) (o := .cells #[.int .i64 a0_0, .int .i64 a0_1, .int .i64 a0_2, .int .i64 a0_3, .slice A0_4 l0_4.length c0_4] 26 (0, 0)) (by (with_reducible repeat (first | refine zG ?_ _ | refine zH ?_ | refine zD ?_ _)); exact BK321.out) hb); have n2_ := zA (below_step (by repeat (first | (with_reducible first | exact HB.out | apply zC | apply zB | apply zF | refine zE ?_ GE321.out) | exact HB.out)) hb); clear BK321; clear HB; have HO324 := n0_; have BK321 := n1_; have HB := n2_; clear n0_ n1_ n2_; (try clear hb); (try clear hb2); (try clear hk); (try clear hi); (try clear ho0)))
 go_ret
 exact ⟨_, by first | rfl | (simp [errW_none, errW_some] <;> rfl) | (simp [*, errW_none, errW_some] <;> rfl), by (with_reducible repeat (first | apply yE | apply yF | apply yG)); exact HO324.out, by repeat (first | (with_reducible first | exact HB.out | apply zC | apply zB | apply zF | refine zE ?_ GE321.out) | exact HB.out)⟩
end Go.Proofs.Ytilimpjcdeeaiaa.G

