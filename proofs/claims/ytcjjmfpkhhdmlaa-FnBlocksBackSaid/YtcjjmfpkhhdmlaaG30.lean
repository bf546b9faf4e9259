-- Written by gp.py (a program of this session's, over the kit's print). Not trusted: Lean checks it.
import Derived.Test.YtcjjmfpkhhdmlaaG0h
import Derived.Test.YtcjjmfpkhhdmlaaG91
import Derived.Test.YtcjjmfpkhhdmlaaG94
import Derived.Test.YtcjjmfpkhhdmlaaG95
import Derived.Test.YtcjjmfpkhhdmlaaGLib
namespace Go.Proofs.Ytcjjmfpkhhdmlaa.G
open Go.RowKit Go.Proofs.YtcjjmfpkhhdmlaaW.PrintWords Go.Proofs.YtcjjmfpkhhdmlaaW.PrintLast Go.Proofs.YtcjjmfpkhhdmlaaW.PrintMore
attribute [local go_sem] max2_int min2_int max_two min_two max_three min_three max_four min_four   -- for this text's walks alone
set_option linter.unusedVariables false
set_option linter.unusedSimpArgs false

/-! ### impl_JoinBlocks: function 30 -/
/-! rows of numbers looked at by a function: slices.IndexFunc and ContainsFunc, for any quiet predicate -/
/-- what a predicate tells of any row, in any world -/
def Rowed (fn : Nat) (P : List Int → Bool) : Prop :=
  (∀ (args : Array Value) (W1 : World), Sem.run Try.prog (callFunc fn args) W1 = Result.ok (Next.enter fn args) W1) ∧
  ∀ (A1 : Option Addr) (c1 : Nat) (row : List Int) (W1 : World), Kd.C (Kd.int .i64) W1 A1 row.length row → row.length ≤ c1 → Calls Try.prog fn #[.slice A1 row.length c1] W1 fun e w' => e = .returned (.bool (!P row)) ∧ Drawn0 W1 w'
def IdxAny (P : List Int → Bool) (l0 : List (List Int)) (w : World) (e : Ending) (w' : World) : Prop := (∃ r : Int, e = .returned (.int .i64 r) ∧ (0 ≤ r ↔ l0.all P = false)) ∧ Drawn0 w w'
set_option maxRecDepth 100000 in
set_option maxHeartbeats 4000000 in
theorem idx_any (fn : Nat) (P : List Int → Bool) (hS : Rowed fn P) (A0 : Option Addr) (c0 : Nat) (l0 : List (List Int)) (w : World) (hr0 : Kd.C (Kd.slice 3 (Kd.int .i64)) w A0 l0.length l0) (hc0 : l0.length ≤ c0) (hm : l0.length ≤ 100000000) :
    Calls Try.prog 149 #[.slice A0 l0.length c0, .func (.func fn) #[] #[]] w (IdxAny P l0 w) := by
  have HR0 := Aside0.mk hr0
  have HC0 := Aside0.mk hc0
  have HS := Aside0.mk hS
  clear hr0 hc0 hS
  go_enter Try.func149, Try.ntmps149
  go_wp2
  go_loopw [8] (fun i w' => ∃ k : Nat, i = .int .i64 k ∧ k ≤ l0.length ∧ Aside0 ((l0.take k).all P = true) ∧ Drawn0 w w') (fun i w' => l0.length - (intOf i).toNat)
  case atStart => exact ⟨0, rfl, by omega, ⟨by simp⟩, Drawn0.refl _⟩
  case round =>
    obtain ⟨k, rfl, hk, HA, ⟨m1, rfl⟩⟩ := hrel
    by_cases hlt : k < l0.length
    · obtain ⟨ad, A1, c1, e1, hx, hl, hi⟩ := at_L3 HR0.out (k : Int) (by omega) (by omega)
      cases e1
      rw [Int.toNat_natCast] at hx
      have HR1 := Aside0.mk hi
      have HC1 := Aside0.mk hl
      clear hi hl
      have hgl : rd_L3 l0 k = l0[k] := by simp [rd_L3, hlt]
      cases hp : P (rd_L3 l0 k)
      all_goals
        have HP := Aside0.mk hp
        have HG := Aside0.mk hgl
        clear hp hgl
        go_wp2_with fail
        rw [HS.out.1]
        simp only [Oper.upon_enter, Array.append_empty]
        refine (HS.out.2 A1 c1 (rd_L3 l0 k) (w.drewN m1) (Kd.C_drewN HR1.out m1) HC1.out).mono ?_
        rw [HP.out]
        rintro e w' ⟨rfl, ⟨nd, rfl⟩⟩
      · go_wp2
        go_ret
        exact ⟨⟨_, rfl, by simp only [Int.natCast_nonneg, true_iff]; rw [Bool.eq_false_iff]; intro h; rw [List.all_eq_true] at h; have := h l0[k] (List.getElem_mem _); rw [← HG.out, HP.out] at this; simp at this⟩, by repeat (first | exact Drawn0.refl _ | apply Drawn0.step)⟩
      · go_wp2
        go_roundw
        case rel => exact ⟨k + 1, by go_num, by omega, ⟨by rw [List.take_succ_eq_append_getElem hlt, List.all_append, HA.out]; simp [← HG.out, HP.out]⟩, by repeat (first | exact Drawn0.refl _ | apply Drawn0.step)⟩
        case measure => simp [intOf]; omega
    · obtain rfl : k = l0.length := by omega
      go_wp2
      go_ret
      exact ⟨⟨_, rfl, by have := HA.out; rw [List.take_length] at this; simp [this]⟩, by repeat (first | exact Drawn0.refl _ | apply Drawn0.step)⟩
set_option maxRecDepth 100000 in
set_option maxHeartbeats 4000000 in
theorem cont_any (fn : Nat) (P : List Int → Bool) (hS : Rowed fn P) (A0 : Option Addr) (c0 : Nat) (l0 : List (List Int)) (w : World) (hr0 : Kd.C (Kd.slice 3 (Kd.int .i64)) w A0 l0.length l0) (hc0 : l0.length ≤ c0) (hm : l0.length ≤ 100000000) :
    Calls Try.prog 92 #[.slice A0 l0.length c0, .func (.func fn) #[] #[]] w fun e w' => e = .returned (.bool (!l0.all P)) ∧ Drawn0 w w' := by
  have HR0 := Aside0.mk hr0
  have HC0 := Aside0.mk hc0
  have HS := Aside0.mk hS
  clear hr0 hc0 hS
  cases ha : l0.all P
  all_goals
    have HAA := Aside0.mk ha
    clear ha
    go_enter Try.func92, Try.ntmps92
    go_wp2_with (first | (go_at_call 149; (with_reducible refine (idx_any fn P HS.out _ _ l0 _ ?side1 ?side2 hm).mono ?_); (case side1 => exact HR0.out); (case side2 => exact HC0.out); rintro e w' ⟨⟨r, rfl, hq⟩, ⟨nd, rfl⟩⟩; rw [HAA.out] at hq; (first | have hq2 : 0 ≤ r := hq.2 rfl | have hq2 : ¬ 0 ≤ r := fun z => absurd (hq.1 z) (by decide)); clear hq))
    go_ret
    exact ⟨by simp [hq2], ⟨_, rfl⟩⟩
/-- a block of 64 samples -/
def blkOk (b : List Int) : Bool := decide (b.length = 64) && allW 0 4095 b
def joinOk (l : List (List Int)) (w h : Int) : Bool := sidesOk w h && (decide (w % 8 = 0) && (decide (h % 8 = 0) && (decide ((l.length : Int) = w * h / 64) && l.all blkOk)))
def joinG (l : List (List Int)) (w : Int) (y x : Nat) : Int := rd (rd_L3 l (((y / 8 : Nat) : Int) * (w / 8) + ((x / 8 : Nat) : Int))) (((y % 8 : Nat) : Int) * 8 + ((x % 8 : Nat) : Int))
def impl_JoinBlocks.f (l0 : List (List Int)) (a1 a2 : Int) : Option (List Int) := if l0.length ≤ 100000000 then some (if joinOk l0 a1 a2 then planeM a1.toNat a2.toNat (joinG l0 a1) else []) else none
set_option maxRecDepth 100000 in
set_option maxHeartbeats 4000000 in
theorem blk_lit (A0 : Option Addr) (c0 : Nat) (l0 : List Int) (w : World) (hr0 : Kd.C (Kd.int .i64) w A0 l0.length l0) (hc0 : l0.length ≤ c0) :
    Calls Try.prog 93 #[.slice A0 l0.length c0] w fun e w' => e = .returned (.bool (!blkOk l0)) ∧ Drawn0 w w' := by
  have HR0 := Aside0.mk hr0
  have HC0 := Aside0.mk hc0
  clear hr0 hc0
  by_cases h64 : l0.length = 64
  · obtain ⟨k, h⟩ := impl_allWithin.ev 0 4095 l0 (by omega)
    have A3 := Aside0.mk h
    have hd : ((l0.length : Int) != 64) = false := by rw [show (l0.length : Int) = 64 by omega]; rfl
    have HV := Aside0.mk (show blkOk l0 = allW 0 4095 l0 by unfold blkOk; rw [h64]; rfl)
    clear h h64
    cases hb : allW 0 4095 l0
    all_goals
      rw [hb] at A3 HV
      clear hb
      go_enter Try.func93, Try.ntmps93
      go_wp2_with (first | (go_at_call 94; (with_reducible refine (impl_allWithin.calls k _ _ l0 _ _ _ _ ?side1 ?side2 A3.out).mono ?_); (case side1 => exact HR0.out); (case side2 => exact HC0.out); rintro e w' ⟨rfl, ⟨nd, rfl⟩⟩))
      go_ret
      exact ⟨by rw [HV.out]; rfl, ⟨_, rfl⟩⟩
  · have hd : ((l0.length : Int) != 64) = true := by rw [bne_iff_ne]; omega
    have HV := Aside0.mk (show blkOk l0 = false by unfold blkOk; rw [decide_eq_false h64]; rfl)
    clear h64
    go_enter Try.func93, Try.ntmps93
    go_wp2
    go_ret
    exact ⟨by rw [HV.out]; rfl, ⟨0, rfl⟩⟩
theorem join_w0 (p : Nat) (h : p < 1000000) : wrap64 (p : Int) = (p : Int) := by unfold wrap64; omega
theorem join_w1 (a b : Nat) (h : a + b < 1000000) : wrap64 ((a : Int) + (b : Int)) = ((a + b : Nat) : Int) := by unfold wrap64; omega
theorem join_w2 (a : Nat) (h : a < 8) : wrap64 ((a : Int) * 8) = ((a * 8 : Nat) : Int) := by unfold wrap64; omega
theorem join_w5 (n : Nat) (wd : Int) (h : wd = 8 * (n : Int)) : Int.tdiv wd 8 = (n : Int) := by rw [h, Int.tdiv_eq_ediv_of_nonneg (by omega)]; omega
set_option maxRecDepth 100000 in
set_option maxHeartbeats 4000000 in
theorem join_lit (l : List (List Int)) (n m : Nat) (hn : n ≤ 128) (hm : m ≤ 128) (gl gw : Nat) (A : Option Addr) (c : Nat) (W1 : World) (k1 : W1.heap[gl]? = some (.cells #[.slice A l.length c] 36 (0, 0))) (k2 : W1.heap[gw]? = some (.cells #[.int .i64 (8 * (n : Int))] 3 (0, 0))) (hC : Kd.C (Kd.slice 3 (Kd.int .i64)) W1 A l.length l) (hl : l.length = m * n) (hall : l.all blkOk = true) (y x : Nat) (hy : y < 8 * m) (hx : x < 8 * n) :
    Calls Try.prog 96 #[.int .i64 (y : Int), .int .i64 (x : Int), .pointer (some ⟨gl, 0, none⟩), .pointer (some ⟨gw, 0, none⟩)] W1 fun e w' => e = .returned (.int .i64 (joinG l (8 * (n : Int)) y x)) ∧ Drawn0 W1 w' := by
  obtain ⟨yq, hyq⟩ : ∃ q : Nat, q = y / 8 := ⟨_, rfl⟩
  obtain ⟨yr, hyr⟩ : ∃ q : Nat, q = y % 8 := ⟨_, rfl⟩
  obtain ⟨xq, hxq⟩ : ∃ q : Nat, q = x / 8 := ⟨_, rfl⟩
  obtain ⟨xr, hxr⟩ : ∃ q : Nat, q = x % 8 := ⟨_, rfl⟩
  have e1 : (yq + 1) * n ≤ m * n := Nat.mul_le_mul_right _ (by omega)
  rw [Nat.succ_mul] at e1
  have e2 : yq * n ≤ 128 * 128 := Nat.mul_le_mul (by omega) hn
  obtain ⟨p, hp⟩ : ∃ p : Nat, p = yq * n := ⟨_, rfl⟩
  rw [← hp] at e1 e2
  have hpi : (yq : Int) * (n : Int) = (p : Int) := by rw [hp]; simp
  have hlt : p + xq < l.length := by omega
  obtain ⟨ad, A1, ca, rfl, hcell, hla, hrow⟩ := at_L3 hC ((p + xq : Nat) : Int) (by omega) (by omega)
  rw [Int.toNat_natCast] at hcell
  have hb : blkOk (rd_L3 l ((p + xq : Nat) : Int)) = true := by
    rw [show rd_L3 l ((p + xq : Nat) : Int) = l[p + xq] by unfold rd_L3; rw [Int.toNat_natCast, List.getD_eq_getElem?_getD, List.getElem?_eq_getElem hlt]; rfl]
    exact List.all_eq_true.1 hall _ (List.getElem_mem hlt)
  have hl64 : (rd_L3 l ((p + xq : Nat) : Int)).length = 64 := by
    simp only [blkOk, Bool.and_eq_true, decide_eq_true_eq] at hb; exact hb.1
  obtain ⟨ad2, rfl, hcell2⟩ := Kd.at_int hrow ((yr * 8 + xr : Nat) : Int) (by omega) (by omega)
  rw [Int.toNat_natCast] at hcell2
  have HV := Aside0.mk (show joinG l (8 * (n : Int)) y x = rd (rd_L3 l ((p + xq : Nat) : Int)) ((yr * 8 + xr : Nat) : Int) by
    unfold joinG
    rw [← hyq, ← hxq, ← hyr, ← hxr, show (8 * (n : Int)) / 8 = n by omega, hpi]
    simp)
  generalize rd_L3 l ((p + xq : Nat) : Int) = row at hcell hcell2 hl64 HV hla hrow hb
  have q0 : yq < 128 := by clear e1 e2; omega
  have q1 : xq < 128 := by clear e1 e2; omega
  have q2 : yr < 8 := by clear e1 e2; omega
  have q3 : xr < 8 := by clear e1 e2; omega
  have z1 : p + xq < 1000000 := by clear e1; omega
  have z2 : yr * 8 + xr < 1000000 := by clear e1 e2; omega
  have z3 : p < 1000000 := by clear e1; omega
  have z4 : yr * 8 + xr < 64 := by clear e1 e2; omega
  have b0 : ((p + xq : Nat) : Int) < (l.length : Int) := Int.ofNat_lt.2 hlt
  have b1 : ((yr * 8 + xr : Nat) : Int) < (row.length : Int) := by rw [hl64]; exact Int.ofNat_lt.2 z4
  clear e1 e2 hl hlt hl64
  have c1 := blk_cell k1 0
  have c2 := blk_cell k2 0
  simp at c1 c2
  have v1 : Int.tdiv (y : Int) 8 = (yq : Int) := by rw [hyq]; rfl
  have v2 : Int.tdiv (x : Int) 8 = (xq : Int) := by rw [hxq]; rfl
  have v3 : Int.tmod (y : Int) 8 = (yr : Int) := by rw [hyr]; rfl
  have v4 : Int.tmod (x : Int) 8 = (xr : Int) := by rw [hxr]; rfl
  clear hyq hyr hxq hxr hb hrow hC hall hla k1 k2 hy hx hp
  obtain ⟨wd, hwd⟩ : ∃ i : Int, i = 8 * (n : Int) := ⟨_, rfl⟩
  rw [← hwd] at c2
  have w6 : wrap64 (n : Int) = (n : Int) := join_w0 n (by omega)
  have v5 : Int.tdiv wd 8 = (n : Int) := join_w5 n wd hwd
  have w1 : wrap64 ((yq : Int) * (n : Int)) = (p : Int) := by rw [hpi]; exact join_w0 p z3
  have w2 : wrap64 ((p : Int) + (xq : Int)) = ((p + xq : Nat) : Int) := join_w1 p xq z1
  have w3 : wrap64 ((yr : Int) * 8) = ((yr * 8 : Nat) : Int) := join_w2 yr q2
  have w4 : wrap64 (((yr * 8 : Nat) : Int) + (xr : Int)) = ((yr * 8 + xr : Nat) : Int) := join_w1 (yr * 8) xr z2
  clear hpi hwd hm hn z1 z2 z3 z4
  generalize p + xq = i1 at hcell w2 b0 HV
  clear w3 w4
  rw [show ((yr * 8 + xr : Nat) : Int) = (yr : Int) * 8 + (xr : Int) by simp] at hcell2 b1 HV
  go_enter Try.func96, Try.ntmps96
  go_wp2
  go_ret
  refine ⟨?_, ⟨0, rfl⟩⟩
  rw [HV.out]
  rfl
set_option maxRecDepth 100000 in
set_option maxHeartbeats 4000000 in
theorem impl_JoinBlocks.calls (A0 : Option Addr) (c0 : Nat) (l0 : List (List Int)) (a1 a2 : Int) (r : List Int) (w : World) (hr0 : Kd.C (Kd.slice 3 (Kd.int .i64)) w A0 l0.length l0) (hc0 : l0.length ≤ c0) (h : impl_JoinBlocks.f l0 a1 a2 = some r) :
    Calls Try.prog 30 #[.slice A0 l0.length c0, .int .i64 a1, .int .i64 a2] w fun e w' => ∃ v0_ : Value, e = .returned (v0_) ∧ Kd.R (Kd.int .i64) 3 w' w.heap.size (fun _ => True) v0_ r ∧ Below w.heap.size w w' := by
  unfold impl_JoinBlocks.f at h
  split at h
  · rename_i hl9
    have HH := Aside0.mk (Option.some.inj h)
    have hsv := impl_areSides.val a1 a2
    have A2 := Aside0.mk hsv
    have HR0 := Aside0.mk hr0
    have HC0 := Aside0.mk hc0
    have HL9 := Aside0.mk hl9
    have HROW := Aside0.mk (show Rowed 93 blkOk from ⟨fun args W => by go_simp, fun A1 c1 row W1 h1 h2 => blk_lit A1 c1 row W1 h1 h2⟩)
    clear h hsv hr0 hc0 hl9
    go_enter Try.func30, Try.ntmps30
    go_upto_region 1 with (fail)
    generalize hW : (w.alloc (Obj.cells #[Value.slice A0 l0.length c0] 36)).alloc (Obj.cells #[Value.int IntKind.i64 a1] 3) = W1
    have k1 : W1.heap[w.heap.size]? = some (.cells #[.slice A0 l0.length c0] 36 (0, 0)) := by rw [← hW]; exact blk_alloc (blk_new _ _) _
    have k2 : W1.heap[w.heap.size + 1]? = some (.cells #[.int .i64 a1] 3 (0, 0)) := by
      have := blk_new (w.alloc (Obj.cells #[Value.slice A0 l0.length c0] 36)) (Obj.cells #[Value.int IntKind.i64 a1] 3)
      rw [hW] at this; simpa using this
    have HB1 := Aside0.mk (show Below w.heap.size w W1 by rw [← hW]; exact below_alloc (below_alloc (Below.refl _ _) _) _)
    have HC1 := Aside0.mk (Kd.C_below HR0.out HB1.out)
    clear hW
    generalize hgw : w.heap.size + 1 = gw at k2 ⊢
    have c1 := blk_cell k1 0
    have c2 := blk_cell k2 0
    simp at c1 c2
    have K1 := Aside0.mk k1
    have K2 := Aside0.mk k2
    clear k1 k2 hgw
    cases hs : sidesOk a1 a2
    · rw [hs] at A2
      have HN := Aside0.mk (show [] = r by rw [← HH.out, if_neg (by unfold joinOk; rw [hs]; simp)])
      clear HH
      clear hs
      go_wp2_with (first | (go_at_call 91; (with_reducible refine (impl_areSides.calls _ _ _ _ A2.out).mono ?_); rintro e w' ⟨rfl, ⟨nd, rfl⟩⟩) | (go_at_call 92; (with_reducible refine (cont_any 93 blkOk HROW.out _ _ l0 _ ?side1 ?side2 HL9.out).mono ?_); (case side1 => repeat (first | exact HC1.out | (with_reducible refine Kd.C_alloc ?_ _) | (with_reducible refine Kd.C_drewN ?_ _) | (with_reducible refine Kd.C_drew ?_))); (case side2 => exact HC0.out); (rw [HALL.out]); rintro e w' ⟨rfl, ⟨nd2, rfl⟩⟩))
      repeat (go_quiet (first | (go_at_call 91; (with_reducible refine (impl_areSides.calls _ _ _ _ A2.out).mono ?_); rintro e w' ⟨rfl, ⟨nd, rfl⟩⟩) | (go_at_call 92; (with_reducible refine (cont_any 93 blkOk HROW.out _ _ l0 _ ?side1 ?side2 HL9.out).mono ?_); (case side1 => repeat (first | exact HC1.out | (with_reducible refine Kd.C_alloc ?_ _) | (with_reducible refine Kd.C_drewN ?_ _) | (with_reducible refine Kd.C_drew ?_))); (case side2 => exact HC0.out); (rw [HALL.out]); rintro e w' ⟨rfl, ⟨nd2, rfl⟩⟩)); try go_wp2_with (first | (go_at_call 91; (with_reducible refine (impl_areSides.calls _ _ _ _ A2.out).mono ?_); rintro e w' ⟨rfl, ⟨nd, rfl⟩⟩) | (go_at_call 92; (with_reducible refine (cont_any 93 blkOk HROW.out _ _ l0 _ ?side1 ?side2 HL9.out).mono ?_); (case side1 => repeat (first | exact HC1.out | (with_reducible refine Kd.C_alloc ?_ _) | (with_reducible refine Kd.C_drewN ?_ _) | (with_reducible refine Kd.C_drew ?_))); (case side2 => exact HC0.out); (rw [HALL.out]); rintro e w' ⟨rfl, ⟨nd2, rfl⟩⟩)))
      go_ret
      refine ⟨_, rfl, ?_, ?_⟩
      · rw [← HN.out]; exact Kd.R_nil _ _ _ _ _
      · repeat (first | exact HB1.out | apply pw_below_drewN | apply below_drew1)
    · rw [hs] at A2
      obtain ⟨s1, s2, s3, s4, s5⟩ := sides_of hs
      have t1 : Int.tmod a1 8 = a1 % 8 := Int.tmod_eq_emod_of_nonneg (by omega)
      have t2 : Int.tmod a2 8 = a2 % 8 := Int.tmod_eq_emod_of_nonneg (by omega)
      by_cases q1 : a1 % 8 = 0
      · have d1 : Int.tmod a1 8 = 0 := t1.trans q1
        by_cases q2 : a2 % 8 = 0
        · have d2 : Int.tmod a2 8 = 0 := t2.trans q2
          have hmm := mul_1024 a1 a2 s1 s2 s3 s4
          obtain ⟨p, hp⟩ : ∃ p, p = a1 * a2 := ⟨_, rfl⟩
          rw [← hp] at hmm s5
          obtain ⟨q, hq⟩ : ∃ q, q = p / 64 := ⟨_, rfl⟩
          have u1 : wrap64 (a1 * a2) = p := by rw [← hp]; exact wrap_in p (by omega) (by omega)
          have u2 : Int.tdiv p 64 = q := by rw [Int.tdiv_eq_ediv_of_nonneg (by omega), hq]
          have u3 : wrap64 q = q := wrap_in q (by omega) (by omega)
          have PQ := Aside0.mk (show q = a1 * a2 / 64 by rw [hq, hp])
          by_cases q3 : (l0.length : Int) = q
          · have d3 : ((l0.length : Int) != q) = false := by rw [q3]; simp
            cases hall : l0.all blkOk
            · have HALL := Aside0.mk hall
              have HN := Aside0.mk (show [] = r by rw [← HH.out, if_neg (by unfold joinOk; rw [hall]; simp)])
              clear HH
              clear hs hall t1 t2 q3 hp hq s1 s2 s3 s4 s5 hmm
              go_wp2_with (first | (go_at_call 91; (with_reducible refine (impl_areSides.calls _ _ _ _ A2.out).mono ?_); rintro e w' ⟨rfl, ⟨nd, rfl⟩⟩) | (go_at_call 92; (with_reducible refine (cont_any 93 blkOk HROW.out _ _ l0 _ ?side1 ?side2 HL9.out).mono ?_); (case side1 => repeat (first | exact HC1.out | (with_reducible refine Kd.C_alloc ?_ _) | (with_reducible refine Kd.C_drewN ?_ _) | (with_reducible refine Kd.C_drew ?_))); (case side2 => exact HC0.out); (rw [HALL.out]); rintro e w' ⟨rfl, ⟨nd2, rfl⟩⟩))
              repeat (go_quiet (first | (go_at_call 91; (with_reducible refine (impl_areSides.calls _ _ _ _ A2.out).mono ?_); rintro e w' ⟨rfl, ⟨nd, rfl⟩⟩) | (go_at_call 92; (with_reducible refine (cont_any 93 blkOk HROW.out _ _ l0 _ ?side1 ?side2 HL9.out).mono ?_); (case side1 => repeat (first | exact HC1.out | (with_reducible refine Kd.C_alloc ?_ _) | (with_reducible refine Kd.C_drewN ?_ _) | (with_reducible refine Kd.C_drew ?_))); (case side2 => exact HC0.out); (rw [HALL.out]); rintro e w' ⟨rfl, ⟨nd2, rfl⟩⟩)); try go_wp2_with (first | (go_at_call 91; (with_reducible refine (impl_areSides.calls _ _ _ _ A2.out).mono ?_); rintro e w' ⟨rfl, ⟨nd, rfl⟩⟩) | (go_at_call 92; (with_reducible refine (cont_any 93 blkOk HROW.out _ _ l0 _ ?side1 ?side2 HL9.out).mono ?_); (case side1 => repeat (first | exact HC1.out | (with_reducible refine Kd.C_alloc ?_ _) | (with_reducible refine Kd.C_drewN ?_ _) | (with_reducible refine Kd.C_drew ?_))); (case side2 => exact HC0.out); (rw [HALL.out]); rintro e w' ⟨rfl, ⟨nd2, rfl⟩⟩)))
              go_ret
              refine ⟨_, rfl, ?_, ?_⟩
              · rw [← HN.out]; exact Kd.R_nil _ _ _ _ _
              · repeat (first | exact HB1.out | apply pw_below_drewN | apply below_drew1)
            · have HALL := Aside0.mk hall
              have HY := Aside0.mk (show planeM a1.toNat a2.toNat (joinG l0 a1) = r by rw [← HH.out, if_pos (by unfold joinOk; rw [hs, hall, decide_eq_true q1, decide_eq_true q2, decide_eq_true (q3.trans PQ.out)]; rfl)])
              obtain ⟨n, hn⟩ : ∃ n : Nat, a1 = 8 * (n : Int) := ⟨(a1 / 8).toNat, by omega⟩
              obtain ⟨m, hm⟩ : ∃ m : Nat, a2 = 8 * (m : Int) := ⟨(a2 / 8).toNat, by omega⟩
              have hlen : l0.length = m * n := by
                have : q = ((m * n : Nat) : Int) := by
                  rw [PQ.out, hn, hm, show (8 * (n : Int)) * (8 * (m : Int)) = 64 * ((m : Int) * (n : Int)) by rw [Int.mul_assoc, Int.mul_left_comm (n : Int) 8, ← Int.mul_assoc 8 8, Int.mul_comm (n : Int)]; rfl, Int.mul_ediv_cancel_left _ (by omega)]
                  simp
                omega
              have n128 : n ≤ 128 := by clear hlen u1 u2 u3 t1 t2; omega
              have m128 : m ≤ 128 := by clear hlen u1 u2 u3 t1 t2; omega
              have HLEN := Aside0.mk hlen
              have HNM := Aside0.mk (And.intro hn hm)
              have N1 := Aside0.mk (show a1 = ((8 * n : Nat) : Int) by rw [hn]; simp)
              have N2 := Aside0.mk (show a2 = ((8 * m : Nat) : Int) by rw [hm]; simp)
              clear HH hs hall t1 t2 q3 hp hq s1 s2 s3 s4 s5 hmm hn hm hlen
              go_wp2_with (first | (go_at_call 91; (with_reducible refine (impl_areSides.calls _ _ _ _ A2.out).mono ?_); rintro e w' ⟨rfl, ⟨nd, rfl⟩⟩) | (go_at_call 92; (with_reducible refine (cont_any 93 blkOk HROW.out _ _ l0 _ ?side1 ?side2 HL9.out).mono ?_); (case side1 => repeat (first | exact HC1.out | (with_reducible refine Kd.C_alloc ?_ _) | (with_reducible refine Kd.C_drewN ?_ _) | (with_reducible refine Kd.C_drew ?_))); (case side2 => exact HC0.out); (rw [HALL.out]); rintro e w' ⟨rfl, ⟨nd2, rfl⟩⟩))
              repeat (go_quiet (first | (go_at_call 91; (with_reducible refine (impl_areSides.calls _ _ _ _ A2.out).mono ?_); rintro e w' ⟨rfl, ⟨nd, rfl⟩⟩) | (go_at_call 92; (with_reducible refine (cont_any 93 blkOk HROW.out _ _ l0 _ ?side1 ?side2 HL9.out).mono ?_); (case side1 => repeat (first | exact HC1.out | (with_reducible refine Kd.C_alloc ?_ _) | (with_reducible refine Kd.C_drewN ?_ _) | (with_reducible refine Kd.C_drew ?_))); (case side2 => exact HC0.out); (rw [HALL.out]); rintro e w' ⟨rfl, ⟨nd2, rfl⟩⟩)); try go_wp2_with (first | (go_at_call 91; (with_reducible refine (impl_areSides.calls _ _ _ _ A2.out).mono ?_); rintro e w' ⟨rfl, ⟨nd, rfl⟩⟩) | (go_at_call 92; (with_reducible refine (cont_any 93 blkOk HROW.out _ _ l0 _ ?side1 ?side2 HL9.out).mono ?_); (case side1 => repeat (first | exact HC1.out | (with_reducible refine Kd.C_alloc ?_ _) | (with_reducible refine Kd.C_drewN ?_ _) | (with_reducible refine Kd.C_drew ?_))); (case side2 => exact HC0.out); (rw [HALL.out]); rintro e w' ⟨rfl, ⟨nd2, rfl⟩⟩)))
              refine (impl_plane.calls' 96 #[.pointer (some ⟨w.heap.size, 0, none⟩), .pointer (some ⟨gw, 0, none⟩)] (8 * n) (8 * m) (joinG l0 a1) _ _ _ N1.out.symm N2.out.symm (by omega) (by omega) ⟨fun args W => by go_simp, ?_⟩).mono ?_
              · intro W2 y x hb hy hx
                have hb2 : Below W1.heap.size W1 W2 := Below.trans (by repeat (first | exact Below.refl _ _ | apply pw_below_drewN | apply below_drew1)) hb
                have kk := K2.out
                rw [HNM.out.1] at kk ⊢
                exact join_lit l0 n m n128 m128 w.heap.size gw A0 c0 W2 (blk_below K1.out hb2) (blk_below kk hb2) (Kd.C_below HC1.out hb2) HLEN.out HALL.out y x hy hx
              · rintro e_ w_ ⟨v, rfl, ho, hb⟩
                have HO := Aside0.mk ho
                have HB2 := Aside0.mk hb
                clear ho hb
                go_wp2
                go_ret
                refine ⟨_, rfl, ?_, ?_⟩
                · rw [← HY.out, show a1.toNat = 8 * n by rw [N1.out]; exact Int.toNat_natCast _, show a2.toNat = 8 * m by rw [N2.out]; exact Int.toNat_natCast _]
                  exact Kd.R_lower HO.out HB1.out.size
                · exact Below.trans (by repeat (first | exact HB1.out | apply pw_below_drewN | apply below_drew1)) (HB2.out.mono HB1.out.size)
          · have d3 : ((l0.length : Int) != q) = true := bne_iff_ne.2 q3
            have HN := Aside0.mk (show [] = r by rw [← HH.out, if_neg (by unfold joinOk; rw [decide_eq_false (p := (l0.length : Int) = a1 * a2 / 64) (by rw [← PQ.out]; exact q3)]; simp)])
            clear HH
            clear hs t1 t2 q3 hp hq s1 s2 s3 s4 s5 hmm
            go_wp2_with (first | (go_at_call 91; (with_reducible refine (impl_areSides.calls _ _ _ _ A2.out).mono ?_); rintro e w' ⟨rfl, ⟨nd, rfl⟩⟩) | (go_at_call 92; (with_reducible refine (cont_any 93 blkOk HROW.out _ _ l0 _ ?side1 ?side2 HL9.out).mono ?_); (case side1 => repeat (first | exact HC1.out | (with_reducible refine Kd.C_alloc ?_ _) | (with_reducible refine Kd.C_drewN ?_ _) | (with_reducible refine Kd.C_drew ?_))); (case side2 => exact HC0.out); (rw [HALL.out]); rintro e w' ⟨rfl, ⟨nd2, rfl⟩⟩))
            repeat (go_quiet (first | (go_at_call 91; (with_reducible refine (impl_areSides.calls _ _ _ _ A2.out).mono ?_); rintro e w' ⟨rfl, ⟨nd, rfl⟩⟩) | (go_at_call 92; (with_reducible refine (cont_any 93 blkOk HROW.out _ _ l0 _ ?side1 ?side2 HL9.out).mono ?_); (case side1 => repeat (first | exact HC1.out | (with_reducible refine Kd.C_alloc ?_ _) | (with_reducible refine Kd.C_drewN ?_ _) | (with_reducible refine Kd.C_drew ?_))); (case side2 => exact HC0.out); (rw [HALL.out]); rintro e w' ⟨rfl, ⟨nd2, rfl⟩⟩)); try go_wp2_with (first | (go_at_call 91; (with_reducible refine (impl_areSides.calls _ _ _ _ A2.out).mono ?_); rintro e w' ⟨rfl, ⟨nd, rfl⟩⟩) | (go_at_call 92; (with_reducible refine (cont_any 93 blkOk HROW.out _ _ l0 _ ?side1 ?side2 HL9.out).mono ?_); (case side1 => repeat (first | exact HC1.out | (with_reducible refine Kd.C_alloc ?_ _) | (with_reducible refine Kd.C_drewN ?_ _) | (with_reducible refine Kd.C_drew ?_))); (case side2 => exact HC0.out); (rw [HALL.out]); rintro e w' ⟨rfl, ⟨nd2, rfl⟩⟩)))
            go_ret
            refine ⟨_, rfl, ?_, ?_⟩
            · rw [← HN.out]; exact Kd.R_nil _ _ _ _ _
            · repeat (first | exact HB1.out | apply pw_below_drewN | apply below_drew1)
        · have d2 : ¬ Int.tmod a2 8 = 0 := by rw [t2]; exact q2
          have HN := Aside0.mk (show [] = r by rw [← HH.out, if_neg (by unfold joinOk; rw [decide_eq_false q2]; simp)])
          clear HH
          clear hs t1 t2
          go_wp2_with (first | (go_at_call 91; (with_reducible refine (impl_areSides.calls _ _ _ _ A2.out).mono ?_); rintro e w' ⟨rfl, ⟨nd, rfl⟩⟩) | (go_at_call 92; (with_reducible refine (cont_any 93 blkOk HROW.out _ _ l0 _ ?side1 ?side2 HL9.out).mono ?_); (case side1 => repeat (first | exact HC1.out | (with_reducible refine Kd.C_alloc ?_ _) | (with_reducible refine Kd.C_drewN ?_ _) | (with_reducible refine Kd.C_drew ?_))); (case side2 => exact HC0.out); (rw [HALL.out]); rintro e w' ⟨rfl, ⟨nd2, rfl⟩⟩))
          repeat (go_quiet (first | (go_at_call 91; (with_reducible refine (impl_areSides.calls _ _ _ _ A2.out).mono ?_); rintro e w' ⟨rfl, ⟨nd, rfl⟩⟩) | (go_at_call 92; (with_reducible refine (cont_any 93 blkOk HROW.out _ _ l0 _ ?side1 ?side2 HL9.out).mono ?_); (case side1 => repeat (first | exact HC1.out | (with_reducible refine Kd.C_alloc ?_ _) | (with_reducible refine Kd.C_drewN ?_ _) | (with_reducible refine Kd.C_drew ?_))); (case side2 => exact HC0.out); (rw [HALL.out]); rintro e w' ⟨rfl, ⟨nd2, rfl⟩⟩)); try go_wp2_with (first | (go_at_call 91; (with_reducible refine (impl_areSides.calls _ _ _ _ A2.out).mono ?_); rintro e w' ⟨rfl, ⟨nd, rfl⟩⟩) | (go_at_call 92; (with_reducible refine (cont_any 93 blkOk HROW.out _ _ l0 _ ?side1 ?side2 HL9.out).mono ?_); (case side1 => repeat (first | exact HC1.out | (with_reducible refine Kd.C_alloc ?_ _) | (with_reducible refine Kd.C_drewN ?_ _) | (with_reducible refine Kd.C_drew ?_))); (case side2 => exact HC0.out); (rw [HALL.out]); rintro e w' ⟨rfl, ⟨nd2, rfl⟩⟩)))
          go_ret
          refine ⟨_, rfl, ?_, ?_⟩
          · rw [← HN.out]; exact Kd.R_nil _ _ _ _ _
          · repeat (first | exact HB1.out | apply pw_below_drewN | apply below_drew1)
      · have d1 : ¬ Int.tmod a1 8 = 0 := by rw [t1]; exact q1
        have HN := Aside0.mk (show [] = r by rw [← HH.out, if_neg (by unfold joinOk; rw [decide_eq_false q1]; simp)])
        clear HH
        clear hs t1 t2
        go_wp2_with (first | (go_at_call 91; (with_reducible refine (impl_areSides.calls _ _ _ _ A2.out).mono ?_); rintro e w' ⟨rfl, ⟨nd, rfl⟩⟩) | (go_at_call 92; (with_reducible refine (cont_any 93 blkOk HROW.out _ _ l0 _ ?side1 ?side2 HL9.out).mono ?_); (case side1 => repeat (first | exact HC1.out | (with_reducible refine Kd.C_alloc ?_ _) | (with_reducible refine Kd.C_drewN ?_ _) | (with_reducible refine Kd.C_drew ?_))); (case side2 => exact HC0.out); (rw [HALL.out]); rintro e w' ⟨rfl, ⟨nd2, rfl⟩⟩))
        repeat (go_quiet (first | (go_at_call 91; (with_reducible refine (impl_areSides.calls _ _ _ _ A2.out).mono ?_); rintro e w' ⟨rfl, ⟨nd, rfl⟩⟩) | (go_at_call 92; (with_reducible refine (cont_any 93 blkOk HROW.out _ _ l0 _ ?side1 ?side2 HL9.out).mono ?_); (case side1 => repeat (first | exact HC1.out | (with_reducible refine Kd.C_alloc ?_ _) | (with_reducible refine Kd.C_drewN ?_ _) | (with_reducible refine Kd.C_drew ?_))); (case side2 => exact HC0.out); (rw [HALL.out]); rintro e w' ⟨rfl, ⟨nd2, rfl⟩⟩)); try go_wp2_with (first | (go_at_call 91; (with_reducible refine (impl_areSides.calls _ _ _ _ A2.out).mono ?_); rintro e w' ⟨rfl, ⟨nd, rfl⟩⟩) | (go_at_call 92; (with_reducible refine (cont_any 93 blkOk HROW.out _ _ l0 _ ?side1 ?side2 HL9.out).mono ?_); (case side1 => repeat (first | exact HC1.out | (with_reducible refine Kd.C_alloc ?_ _) | (with_reducible refine Kd.C_drewN ?_ _) | (with_reducible refine Kd.C_drew ?_))); (case side2 => exact HC0.out); (rw [HALL.out]); rintro e w' ⟨rfl, ⟨nd2, rfl⟩⟩)))
        go_ret
        refine ⟨_, rfl, ?_, ?_⟩
        · rw [← HN.out]; exact Kd.R_nil _ _ _ _ _
        · repeat (first | exact HB1.out | apply pw_below_drewN | apply below_drew1)
  · cases h

end Go.Proofs.Ytcjjmfpkhhdmlaa.G
