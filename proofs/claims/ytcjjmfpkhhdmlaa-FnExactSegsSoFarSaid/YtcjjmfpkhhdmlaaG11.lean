-- Written by gp.py (a program of this session's, over the kit's print). Not trusted: Lean checks it.
import Derived.Test.YtcjjmfpkhhdmlaaG0h
import Derived.Test.YtcjjmfpkhhdmlaaG135
import Derived.Test.YtcjjmfpkhhdmlaaG136
import Derived.Test.YtcjjmfpkhhdmlaaG17
import Derived.Test.YtcjjmfpkhhdmlaaG20
import Derived.Test.YtcjjmfpkhhdmlaaG22
import Derived.Test.YtcjjmfpkhhdmlaaG58
import Derived.Test.YtcjjmfpkhhdmlaaG59
import Derived.Test.YtcjjmfpkhhdmlaaG60
import Derived.Test.YtcjjmfpkhhdmlaaG61
import Derived.Test.YtcjjmfpkhhdmlaaG62
import Derived.Test.YtcjjmfpkhhdmlaaG63
import Derived.Test.YtcjjmfpkhhdmlaaGLib
import Derived.Test.YtcjjmfpkhhdmlaaGReader
import Derived.Test.YtcjjmfpkhhdmlaaGSegs
namespace Go.Proofs.Ytcjjmfpkhhdmlaa.G
open Go.RowKit Go.Proofs.YtcjjmfpkhhdmlaaW.PrintWords Go.Proofs.YtcjjmfpkhhdmlaaW.PrintLast Go.Proofs.YtcjjmfpkhhdmlaaW.PrintMore
attribute [local go_sem] max2_int min2_int max_two min_two max_three min_three max_four min_four   -- for this text's walks alone
set_option linter.unusedVariables false
set_option linter.unusedSimpArgs false

/-! ### laws_FnExactSegsSoFar: function 11 -/
/- The law FnExactSegsSoFar: for all arguments the program's SegsSoFar answers as the reference's, writes into none of them and keeps nothing of them. No condition. -/
theorem nxt_small (b : List Int) (at_ : Nat) (l : List S131) (hx : ∀ x ∈ l, x.f1.length ≤ 20000) : ∀ x ∈ (nxt b at_ l).2.2.2.2, x.f1.length ≤ 20000 := by
  unfold nxt
  have app : ∀ s : S131, s.f1.length ≤ 20000 → ∀ x ∈ l ++ [s], x.f1.length ≤ 20000 := by
    intro s hs x h
    rcases List.mem_append.1 h with h | h
    · exact hx x h
    · rw [List.mem_singleton.1 h]; exact hs
  split
  · exact hx
  split
  · exact hx
  split
  · exact hx
  split
  · exact hx
  split
  · split
    · exact hx
    · rename_i h; exact app _ (by simp only []; omega)
  split
  · exact app _ (by simp)
  split
  · exact hx
  split
  · exact hx
  split
  · exact hx
  · rename_i h _; exact app _ (by simp only [List.length_take]; omega)
theorem sfI_small (b : List Int) : ∀ (n at_ : Nat) (l : List S131), at_ ≤ b.length → l.length ≤ 300 → (∀ x ∈ l, x.f1.length ≤ 20000) → (sfI b n at_ l).1.length ≤ 300 ∧ ∀ x ∈ (sfI b n at_ l).1, x.f1.length ≤ 20000
  | 0, _, _, _, hl, hx => ⟨hl, hx⟩
  | n + 1, at_, l, hat, hl, hx => by
    obtain ⟨f1, f2, f3⟩ := nxt_facts b at_ l hat hl
    have f4 := nxt_small b at_ l hx
    unfold sfI
    split
    · split
      · exact ⟨by simp only [List.length_dropLast]; omega, fun x h => f4 x (List.dropLast_subset _ h)⟩
      · exact ⟨f2, f4⟩
    split
    · exact ⟨f2, f4⟩
    split
    · split
      · exact ⟨f2, f4⟩
      · exact ⟨f2, f4⟩
    · exact sfI_small b n _ _ f1 f2 f4
theorem soFarM_small (b : List Int) : (soFarM b).1.length ≤ 300 ∧ ∀ x ∈ (soFarM b).1, x.f1.length ≤ 20000 := by
  unfold soFarM
  split
  · exact ⟨by simp, by simp⟩
  split
  · exact ⟨by simp, by simp⟩
  split
  · exact ⟨by simp, by simp⟩
  · rename_i h1 h2 h3
    exact sfI_small b _ 2 [] (by have : ¬ b.length < 2 := fun h => h3 (.inl h); omega) (by simp) (by simp)
theorem laws_eqSegS.T (l : List S131) (hl : l.length ≤ 1048576) (hx : ∀ x ∈ l, x.f1.length ≤ 1048576) : Ev (fun k => laws_eqSegS.f k l l) true := by
  unfold laws_eqSegS.f
  refine Ev.ip rfl ?_
  have key : ∀ d i : Nat, l.length - i = d → i ≤ l.length → Ev (fun k => laws_eqSegS.l0 k l l (i : Int)) true := by
    intro d
    induction d with
    | zero =>
      intro i hd hi
      exact Ev.step (fun _ => by rw [laws_eqSegS.l0]) (Ev.ng (by omega) (Ev.now _))
    | succ d ih =>
      intro i hd hi
      have hlt : i < l.length := by omega
      have e1 : rd_T131 l (i : Int) = l[i] := by unfold rd_T131; rw [Int.toNat_natCast, List.getD_eq_getElem?_getD, List.getElem?_eq_getElem hlt]; rfl
      refine Ev.step (fun _ => by rw [laws_eqSegS.l0]) (Ev.ip (by omega) (Ev.ip (by omega) (Ev.ip (by omega) ?_)))
      rw [e1, wrap_succ i (by omega)]
      refine Ev.bind (r := true) (by unfold laws_eqSeg.f; exact Ev.ip rfl (Ev.bind (laws_eqByteS.T _ (hx _ (List.getElem_mem hlt))) (Ev.ip rfl (Ev.now _)))) (Ev.ip rfl (ih (i + 1) (by omega) (by omega)))
  exact key _ 0 rfl (by omega)
theorem laws_heldSegS.E (l : List S131) (a : Int) (h0 : 0 ≤ a) (h1 : a ≤ 562949953421312) (hl : l.length ≤ 1048576) (hx : ∀ x ∈ l, x.f1.length ≤ 1048576) : Ev (fun k => laws_heldSegS.f k (markL a l) a) (a + totS l) := by
  unfold laws_heldSegS.f
  have key : ∀ d i : Nat, l.length - i = d → i ≤ l.length → Ev (fun k => laws_heldSegS.l0 k (markL a l) (a + totS (l.take i)) (i : Int)) (a + totS l) := by
    intro d
    induction d with
    | zero =>
      intro i hd hi
      obtain rfl : i = l.length := by omega
      refine Ev.step (fun _ => by rw [laws_heldSegS.l0]) (Ev.ng (by rw [markL_length]; omega) (Ev.eq (Ev.now _) ?_))
      rw [List.take_length]
    | succ d ih =>
      intro i hd hi
      have hlt : i < l.length := by omega
      have hxi := hx _ (List.getElem_mem hlt)
      have htl : totS (l.take i) ≤ i * 1048577 := by
        have := totS_le (l.take i) (fun x h => hx x (List.mem_of_mem_take h))
        rw [List.length_take, Nat.min_eq_left hi] at this
        exact this
      have htl2 : i * 1048577 ≤ 1048576 * 1048577 := Nat.mul_le_mul_right _ (by omega)
      have e1 : rd_T131 (markL a l) (i : Int) = ⟨a + totS (l.take i), risingB (a + totS (l.take i) + 1) l[i].f1.length⟩ := by
        unfold rd_T131
        rw [Int.toNat_natCast, List.getD_eq_getElem?_getD]
        have e2 : (markL a l)[i]? = (markL a (l.take (i + 1)) ++ markL (a + totS (l.take (i + 1))) (l.drop (i + 1)))[i]? := by
          rw [← markL_append, List.take_append_drop]
        rw [e2, markL_take l a i hlt, List.getElem?_append_left (by rw [List.length_append, markL_length, List.length_take]; simp; omega), List.getElem?_append_right (by rw [markL_length, List.length_take]; omega), markL_length, List.length_take, Nat.min_eq_left hi, Nat.sub_self]
        rfl
      obtain ⟨tt, htt⟩ : ∃ tt : Int, tt = a + totS (l.take i) := ⟨_, rfl⟩
      refine Ev.step (fun _ => by rw [laws_heldSegS.l0]) (Ev.ip (by rw [markL_length]; omega) (Ev.ip (by omega) ?_))
      rw [e1, wrap_succ i (by omega), ← htt, wrap_in (tt + 1) (by omega) (by omega)]
      refine Ev.ip rfl (Ev.bind (laws_heldByteS.E (tt + 1) l[i].f1.length (by omega) (by omega) hxi) (Ev.ng (by omega) ?_))
      have := ih (i + 1) (by omega) (by omega)
      rw [totS_take l i hlt] at this
      rw [show tt + 1 + (l[i].f1.length : Int) = a + ((totS (l.take i) + (1 + l[i].f1.length) : Nat) : Int) by push_cast; omega]
      exact this
  have := key _ 0 rfl (by omega)
  simpa [totS] using this
theorem laws_heldSegS.R (k : Nat) (A0 : Option Addr) (n c0 : Nat) (l0 : List S131) (a1 : Int) (r : Int) (w : World) (base : Nat) (ok : Nat → Prop) (hr0 : Kd.S k131 131 w base ok (.slice A0 n c0) l0) (h : laws_heldSegS.f k l0 a1 = some r) :
    Calls Try.prog 63 #[.slice A0 n c0, .int .i64 a1] w fun e w' => e = .returned (.int .i64 r) ∧ Drawn0 w w' := by
  obtain ⟨rfl, h1, h2⟩ := Kd.S_reads' hr0
  exact laws_heldSegS.calls k A0 c0 l0 a1 r w h2 h1 h
theorem same_SegsSoFar (l0 : List Int) (h0 : l0.length ≤ 1048576) (hw0 : l0.length ≤ 9223372036854775807 ∧ ∀ x_ ∈ l0, (Lit.int .u8 x_).wf = true) :
    ∃ r s c p, Ev (fun k => spec_SegsSoFar.f k l0) (r, s, c, p) ∧ Ev (fun _ => impl_SegsSoFar.f l0) (r, s, c, p) ∧ r.length ≤ 1048576 ∧ (∀ x ∈ r, x.f1.length ≤ 1048576) := by
  have hb : ∀ x ∈ l0, 0 ≤ x ∧ x ≤ 255 := fun x hx => wf_u8 (hw0.2 x hx)
  have hB : isB l0 = true := by unfold isB; simp only [List.all_eq_true, Bool.and_eq_true, decide_eq_true_eq]; exact hb
  obtain ⟨h1, h2⟩ := soFarM_small l0
  exact ⟨(soFarM l0).1, (soFarM l0).2.1, (soFarM l0).2.2.1, (soFarM l0).2.2.2, soFar_spec l0 hb h0, Ev.c (show impl_SegsSoFar.f l0 = some (soFarM l0) by unfold impl_SegsSoFar.f; rw [if_pos ⟨hB, h0⟩]), by omega, fun x h => by have := h2 x h; omega⟩
set_option maxHeartbeats 40000000 in
set_option maxRecDepth 100000 in
theorem laws_FnExactSegsSoFar.law (A0 : Option Addr) (c0 : Nat) (l0 : List Int) (w : World) (hr0 : Kd.C (Kd.int .u8) w A0 l0.length l0) (hc0 : l0.length ≤ c0) (hw0 : l0.length ≤ 9223372036854775807 ∧ ∀ x_ ∈ l0, (Lit.int .u8 x_).wf = true) :
    Calls Try.prog 11 #[.slice A0 l0.length c0] w fun e w' => e = .returned (.bool true) ∧ Below w.heap.size w w' := by
  have HR0 := Aside0.mk hr0; have HC0 := Aside0.mk hc0; clear hr0 hc0
  have HW0 := Aside0.mk hw0; clear hw0
  by_cases g0 : l0.length > 1048576
  · have d1_ : decide ((1048576 : Int) < (l0.length : Int)) = true := decide_eq_true (by omega)
    have d2_ : decide (1048576 < l0.length) = true := decide_eq_true g0
    clear g0
    go_enter Try.func11, Try.ntmps11
    go_wp2
    go_ret
    exact ⟨rfl, Below.refl _ _⟩
  have dg0 : decide ((1048576 : Int) < (l0.length : Int)) = false := decide_eq_false (by omega)
  have dn0 : decide (1048576 < l0.length) = false := decide_eq_false g0
  have hl0 : l0.length ≤ 1048576 := by omega
  clear g0
  obtain ⟨kt0, ht0⟩ := (laws_toByteS.E l0 (by omega)).rounds; have HT0 := Aside0.mk ht0; clear ht0
  obtain ⟨r0, r1, r2, r3, hsp_, him_, hrl0, hrx0⟩ := same_SegsSoFar l0 hl0 HW0.out
  have HRX0 := Aside0.mk hrx0; clear hrx0
  obtain ⟨ks_, hks_⟩ := hsp_.rounds; obtain ⟨ki_, hki_⟩ := him_.rounds; have HF := Aside0.mk hks_; have HI := Aside0.mk hki_; clear hsp_ him_ hks_ hki_
  go_enter Try.func11, Try.ntmps11
  have HB := Aside0.mk (Below.refl w.heap.size w)
  go_wp2_with fail
  refine (laws_toByteS.calls kt0 _ _ l0 l0 _ (by repeat (first | exact Kd.C_below HR0.out HB.out | (with_reducible refine Kd.C_drewN ?_ _) | (with_reducible refine Kd.C_drew ?_))) HC0.out HT0.out).mono ?_
  rintro e_ w_1 ⟨v_2, rfl, ho_, hb_⟩
  obtain ⟨A_5, c_6, e1_⟩ := Kd.R_slice ho_; subst e1_
  have HO_7 := Aside0.mk (Kd.R_mono (ok' := fun k_ => w.heap.size ≤ k_ ∧ k_ < w_1.heap.size) (Kd.R_lower (Kd.R_bound ho_) HB.out.size) (fun k_ hk_ => ⟨hk_.2.1, hk_.2.2.1⟩)); clear ho_
  have HS_ : w.heap.size ≤ w_1.heap.size := hb_.size
  have HZ_8 := Aside0.mk HS_; clear HS_
  have N_ := Aside0.mk (show Below w.heap.size w w_1 from Below.trans (by repeat (first | exact HB.out | apply pw_below_drewN | apply below_drew)) (Below.mono hb_ HB.out.size)); clear HB; have HB := N_; clear N_
  clear hb_
  go_wp2_with fail
  refine (spec_SegsSoFar.calls ks_ _ _ l0 r0 r1 r2 r3 _ (by repeat (first | exact (Kd.R_reads' HO_7.out).2.2 | (with_reducible refine Kd.C_drewN ?_ _) | (with_reducible refine Kd.C_drew ?_))) (Kd.R_reads' HO_7.out).2.1 HF.out).mono ?_
  rintro e_ w_9 ⟨v_10, rfl, ho0_, hb_⟩
  obtain ⟨A_11, c_12, e1_⟩ := Kd.S_slice ho0_; subst e1_
  have HO_13 := Aside0.mk (Kd.S_mono (ok' := fun k_ => w_1.heap.size ≤ k_ ∧ k_ < w_9.heap.size) (Kd.S_lower (Kd.S_bound ho0_) HB.out.size) (fun k_ hk_ => ⟨hk_.2.1, hk_.2.2.1⟩)); clear ho0_
  have HS_ : w_1.heap.size ≤ w_9.heap.size := hb_.size
  have HZ_14 := Aside0.mk HS_; clear HS_
  have N_ := Aside0.mk (Kd.R_below (by repeat (first | exact HO_7.out | (with_reducible refine Kd.R_drewN ?_ _) | (with_reducible refine Kd.R_drew ?_))) hb_); clear HO_7; have HO_7 := N_; clear N_
  have N_ := Aside0.mk (show Below w.heap.size w w_9 from Below.trans (by repeat (first | exact HB.out | apply pw_below_drewN | apply below_drew)) (Below.mono hb_ HB.out.size)); clear HB; have HB := N_; clear N_
  clear hb_
  go_wp2_with fail
  have hb_ := below_alloc (Below.refl w_9.heap.size w_9) (Obj.cells #[.int .i64 r2, .int .i64 r3] 65)
  have hq_ := blk_new w_9 (Obj.cells #[.int .i64 r2, .int .i64 r3] 65)
  generalize w_9.alloc (Obj.cells #[.int .i64 r2, .int .i64 r3] 65) = w_15 at hb_ hq_ ⊢
  have N_ := Aside0.mk (Kd.R_below (by repeat (first | exact HO_7.out | (with_reducible refine Kd.R_drewN ?_ _) | (with_reducible refine Kd.R_drew ?_))) hb_); clear HO_7; have HO_7 := N_; clear N_
  have N_ := Aside0.mk (Kd.S_below (by repeat (first | exact HO_13.out | (with_reducible refine Kd.S_drewN ?_ _) | (with_reducible refine Kd.S_drew ?_))) hb_); clear HO_13; have HO_13 := N_; clear N_
  have N_ := Aside0.mk (show Below w.heap.size w w_15 from Below.trans (by repeat (first | exact HB.out | apply pw_below_drewN | apply below_drew)) (Below.mono hb_ HB.out.size)); clear HB; have HB := N_; clear N_
  have HQ_16 := Aside0.mk (show w_15.heap[w_9.heap.size]? = some (Obj.cells #[.int .i64 r2, .int .i64 r3] 65) from hq_)
  have hz_ : w_9.heap.size + 1 ≤ w_15.heap.size := blk_lt hq_; have HZ_17 := Aside0.mk hz_; clear hz_ hb_ hq_
  refine (laws_toByteS.calls kt0 _ _ l0 l0 _ (by repeat (first | exact Kd.C_below HR0.out HB.out | (with_reducible refine Kd.C_drewN ?_ _) | (with_reducible refine Kd.C_drew ?_))) HC0.out HT0.out).mono ?_
  rintro e_ w_18 ⟨v_19, rfl, ho_, hb_⟩
  obtain ⟨A_22, c_23, e1_⟩ := Kd.R_slice ho_; subst e1_
  have HO_24 := Aside0.mk (Kd.R_mono (ok' := fun k_ => w_15.heap.size ≤ k_ ∧ k_ < w_18.heap.size) (Kd.R_lower (Kd.R_bound ho_) HB.out.size) (fun k_ hk_ => ⟨hk_.2.1, hk_.2.2.1⟩)); clear ho_
  have HS_ : w_15.heap.size ≤ w_18.heap.size := hb_.size
  have HZ_25 := Aside0.mk HS_; clear HS_
  have N_ := Aside0.mk (Kd.S_below (by repeat (first | exact HO_13.out | (with_reducible refine Kd.S_drewN ?_ _) | (with_reducible refine Kd.S_drew ?_))) hb_); clear HO_13; have HO_13 := N_; clear N_
  have N_ := Aside0.mk (show Below w.heap.size w w_18 from Below.trans (by repeat (first | exact HB.out | apply pw_below_drewN | apply below_drew)) (Below.mono hb_ HB.out.size)); clear HB; have HB := N_; clear N_
  have N_ := Aside0.mk (show w_18.heap[w_9.heap.size]? = some (Obj.cells #[.int .i64 r2, .int .i64 r3] 65) from (hb_.block _ (blk_lt HQ_16.out)).trans HQ_16.out); clear HQ_16; have HQ_16 := N_; clear N_
  clear hb_
  go_wp2_with fail
  refine (impl_SegsSoFar.calls  _ _ l0 r0 r1 r2 r3 _ (by repeat (first | exact (Kd.R_reads' HO_24.out).2.2 | (with_reducible refine Kd.C_drewN ?_ _) | (with_reducible refine Kd.C_drew ?_))) (Kd.R_reads' HO_24.out).2.1 HI.out).mono ?_
  rintro e_ w_26 ⟨v_27, rfl, ho0_, hb_⟩
  obtain ⟨A_28, c_29, e1_⟩ := Kd.S_slice ho0_; subst e1_
  have HO_30 := Aside0.mk (Kd.S_mono (ok' := fun k_ => w_18.heap.size ≤ k_ ∧ k_ < w_26.heap.size) (Kd.S_lower (Kd.S_bound ho0_) HB.out.size) (fun k_ hk_ => ⟨hk_.2.1, hk_.2.2.1⟩)); clear ho0_
  have HS_ : w_18.heap.size ≤ w_26.heap.size := hb_.size
  have HZ_31 := Aside0.mk HS_; clear HS_
  have N_ := Aside0.mk (Kd.S_below (by repeat (first | exact HO_13.out | (with_reducible refine Kd.S_drewN ?_ _) | (with_reducible refine Kd.S_drew ?_))) hb_); clear HO_13; have HO_13 := N_; clear N_
  have N_ := Aside0.mk (Kd.R_below (by repeat (first | exact HO_24.out | (with_reducible refine Kd.R_drewN ?_ _) | (with_reducible refine Kd.R_drew ?_))) hb_); clear HO_24; have HO_24 := N_; clear N_
  have N_ := Aside0.mk (show Below w.heap.size w w_26 from Below.trans (by repeat (first | exact HB.out | apply pw_below_drewN | apply below_drew)) (Below.mono hb_ HB.out.size)); clear HB; have HB := N_; clear N_
  have N_ := Aside0.mk (show w_26.heap[w_9.heap.size]? = some (Obj.cells #[.int .i64 r2, .int .i64 r3] 65) from (hb_.block _ (blk_lt HQ_16.out)).trans HQ_16.out); clear HQ_16; have HQ_16 := N_; clear N_
  clear hb_
  go_wp2_with fail
  have hb_ := below_alloc (Below.refl w_26.heap.size w_26) (Obj.cells #[.int .i64 r2, .int .i64 r3] 65)
  have hq_ := blk_new w_26 (Obj.cells #[.int .i64 r2, .int .i64 r3] 65)
  generalize w_26.alloc (Obj.cells #[.int .i64 r2, .int .i64 r3] 65) = w_32 at hb_ hq_ ⊢
  have N_ := Aside0.mk (Kd.S_below (by repeat (first | exact HO_13.out | (with_reducible refine Kd.S_drewN ?_ _) | (with_reducible refine Kd.S_drew ?_))) hb_); clear HO_13; have HO_13 := N_; clear N_
  have N_ := Aside0.mk (Kd.R_below (by repeat (first | exact HO_24.out | (with_reducible refine Kd.R_drewN ?_ _) | (with_reducible refine Kd.R_drew ?_))) hb_); clear HO_24; have HO_24 := N_; clear N_
  have N_ := Aside0.mk (Kd.S_below (by repeat (first | exact HO_30.out | (with_reducible refine Kd.S_drewN ?_ _) | (with_reducible refine Kd.S_drew ?_))) hb_); clear HO_30; have HO_30 := N_; clear N_
  have N_ := Aside0.mk (show Below w.heap.size w w_32 from Below.trans (by repeat (first | exact HB.out | apply pw_below_drewN | apply below_drew)) (Below.mono hb_ HB.out.size)); clear HB; have HB := N_; clear N_
  have N_ := Aside0.mk (show w_32.heap[w_9.heap.size]? = some (Obj.cells #[.int .i64 r2, .int .i64 r3] 65) from (hb_.block _ (blk_lt HQ_16.out)).trans HQ_16.out); clear HQ_16; have HQ_16 := N_; clear N_
  have HQ_33 := Aside0.mk (show w_32.heap[w_26.heap.size]? = some (Obj.cells #[.int .i64 r2, .int .i64 r3] 65) from hq_)
  have hz_ : w_26.heap.size + 1 ≤ w_32.heap.size := blk_lt hq_; have HZ_34 := Aside0.mk hz_; clear hz_ hb_ hq_
  obtain ⟨ke_35, he_36⟩ := (laws_eqSegS.T r0 (by omega) HRX0.out).rounds; replace he_36 := Aside0.mk he_36
  refine (laws_eqSegS.calls ke_35 _ _ r0 _ _ r0 true _ (by repeat (first | exact (Kd.S_reads' HO_30.out).2.2 | (with_reducible refine Kd.C_drewN ?_ _) | (with_reducible refine Kd.C_drew ?_))) (Kd.S_reads' HO_30.out).2.1 (by repeat (first | exact (Kd.S_reads' HO_13.out).2.2 | (with_reducible refine Kd.C_drewN ?_ _) | (with_reducible refine Kd.C_drew ?_))) (Kd.S_reads' HO_13.out).2.1 he_36.out).mono ?_
  rintro e_ w_37 ⟨rfl, hb_⟩
  have hz_ : w_32.heap.size ≤ w_37.heap.size := hb_.size; have HZ_38 := Aside0.mk hz_; clear hz_
  have N_ := Aside0.mk (Kd.S_below (by repeat (first | exact HO_13.out | (with_reducible refine Kd.S_drewN ?_ _) | (with_reducible refine Kd.S_drew ?_))) hb_); clear HO_13; have HO_13 := N_; clear N_
  have N_ := Aside0.mk (Kd.R_below (by repeat (first | exact HO_24.out | (with_reducible refine Kd.R_drewN ?_ _) | (with_reducible refine Kd.R_drew ?_))) hb_); clear HO_24; have HO_24 := N_; clear N_
  have N_ := Aside0.mk (Kd.S_below (by repeat (first | exact HO_30.out | (with_reducible refine Kd.S_drewN ?_ _) | (with_reducible refine Kd.S_drew ?_))) hb_); clear HO_30; have HO_30 := N_; clear N_
  have N_ := Aside0.mk (show Below w.heap.size w w_37 from Below.trans (by repeat (first | exact HB.out | apply pw_below_drewN | apply below_drew)) (Below.mono hb_ HB.out.size)); clear HB; have HB := N_; clear N_
  have N_ := Aside0.mk (show w_37.heap[w_9.heap.size]? = some (Obj.cells #[.int .i64 r2, .int .i64 r3] 65) from (hb_.block _ (blk_lt HQ_16.out)).trans HQ_16.out); clear HQ_16; have HQ_16 := N_; clear N_
  have N_ := Aside0.mk (show w_37.heap[w_26.heap.size]? = some (Obj.cells #[.int .i64 r2, .int .i64 r3] 65) from (hb_.block _ (blk_lt HQ_33.out)).trans HQ_33.out); clear HQ_33; have HQ_33 := N_; clear N_
  clear hb_
  have ra_ := blk_cell HQ_33.out 0; have rb_ := blk_cell HQ_33.out 1; have rc_ := blk_cell HQ_16.out 0; have rd_ := blk_cell HQ_16.out 1; simp at ra_ rb_ rc_ rd_
  go_wp2_with fail
  clear ra_ rb_ rc_ rd_
  refine (laws_eqFault.calls r2 r3 r2 r3 true _ (by unfold laws_eqFault.f; rw [if_pos rfl, if_pos rfl])).mono ?_
  rintro e_ w_39 ⟨rfl, hb_⟩
  have hz_ : w_37.heap.size ≤ w_39.heap.size := hb_.size; have HZ_40 := Aside0.mk hz_; clear hz_
  have N_ := Aside0.mk (Kd.S_below (by repeat (first | exact HO_13.out | (with_reducible refine Kd.S_drewN ?_ _) | (with_reducible refine Kd.S_drew ?_))) hb_); clear HO_13; have HO_13 := N_; clear N_
  have N_ := Aside0.mk (Kd.R_below (by repeat (first | exact HO_24.out | (with_reducible refine Kd.R_drewN ?_ _) | (with_reducible refine Kd.R_drew ?_))) hb_); clear HO_24; have HO_24 := N_; clear N_
  have N_ := Aside0.mk (Kd.S_below (by repeat (first | exact HO_30.out | (with_reducible refine Kd.S_drewN ?_ _) | (with_reducible refine Kd.S_drew ?_))) hb_); clear HO_30; have HO_30 := N_; clear N_
  have N_ := Aside0.mk (show Below w.heap.size w w_39 from Below.trans (by repeat (first | exact HB.out | apply pw_below_drewN | apply below_drew)) (Below.mono hb_ HB.out.size)); clear HB; have HB := N_; clear N_
  have N_ := Aside0.mk (show w_39.heap[w_9.heap.size]? = some (Obj.cells #[.int .i64 r2, .int .i64 r3] 65) from (hb_.block _ (blk_lt HQ_16.out)).trans HQ_16.out); clear HQ_16; have HQ_16 := N_; clear N_
  have N_ := Aside0.mk (show w_39.heap[w_26.heap.size]? = some (Obj.cells #[.int .i64 r2, .int .i64 r3] 65) from (hb_.block _ (blk_lt HQ_33.out)).trans HQ_33.out); clear HQ_33; have HQ_33 := N_; clear N_
  clear hb_
  go_wp2_with fail
  refine (laws_toByteS.calls kt0 _ _ l0 l0 _ (by repeat (first | exact Kd.C_below HR0.out HB.out | (with_reducible refine Kd.C_drewN ?_ _) | (with_reducible refine Kd.C_drew ?_))) HC0.out HT0.out).mono ?_
  rintro e_ w_41 ⟨v_42, rfl, ho_, hb_⟩
  obtain ⟨A_45, c_46, e1_⟩ := Kd.R_slice ho_; subst e1_
  have HO_47 := Aside0.mk (Kd.R_mono (ok' := fun k_ => w_39.heap.size ≤ k_ ∧ k_ < w_41.heap.size) (Kd.R_lower (Kd.R_bound ho_) HB.out.size) (fun k_ hk_ => ⟨hk_.2.1, hk_.2.2.1⟩)); clear ho_
  have HS_ : w_39.heap.size ≤ w_41.heap.size := hb_.size
  have HZ_48 := Aside0.mk HS_; clear HS_
  have N_ := Aside0.mk (Kd.S_below (by repeat (first | exact HO_13.out | (with_reducible refine Kd.S_drewN ?_ _) | (with_reducible refine Kd.S_drew ?_))) hb_); clear HO_13; have HO_13 := N_; clear N_
  have N_ := Aside0.mk (Kd.R_below (by repeat (first | exact HO_24.out | (with_reducible refine Kd.R_drewN ?_ _) | (with_reducible refine Kd.R_drew ?_))) hb_); clear HO_24; have HO_24 := N_; clear N_
  have N_ := Aside0.mk (Kd.S_below (by repeat (first | exact HO_30.out | (with_reducible refine Kd.S_drewN ?_ _) | (with_reducible refine Kd.S_drew ?_))) hb_); clear HO_30; have HO_30 := N_; clear N_
  have N_ := Aside0.mk (show Below w.heap.size w w_41 from Below.trans (by repeat (first | exact HB.out | apply pw_below_drewN | apply below_drew)) (Below.mono hb_ HB.out.size)); clear HB; have HB := N_; clear N_
  have N_ := Aside0.mk (show w_41.heap[w_9.heap.size]? = some (Obj.cells #[.int .i64 r2, .int .i64 r3] 65) from (hb_.block _ (blk_lt HQ_16.out)).trans HQ_16.out); clear HQ_16; have HQ_16 := N_; clear N_
  have N_ := Aside0.mk (show w_41.heap[w_26.heap.size]? = some (Obj.cells #[.int .i64 r2, .int .i64 r3] 65) from (hb_.block _ (blk_lt HQ_33.out)).trans HQ_33.out); clear HQ_33; have HQ_33 := N_; clear N_
  clear hb_
  obtain ⟨ke_49, he_50⟩ := (laws_eqByteS.T l0 (by omega)).rounds
  replace he_50 := Aside0.mk he_50
  go_wp2_with fail
  refine (laws_eqByteS.calls ke_49 _ _ l0 _ _ l0 true _ (by repeat (first | exact (Kd.R_reads' HO_24.out).2.2 | (with_reducible refine Kd.C_drewN ?_ _) | (with_reducible refine Kd.C_drew ?_))) (Kd.R_reads' HO_24.out).2.1 (by repeat (first | exact (Kd.R_reads' HO_47.out).2.2 | (with_reducible refine Kd.C_drewN ?_ _) | (with_reducible refine Kd.C_drew ?_))) (Kd.R_reads' HO_47.out).2.1 he_50.out).mono ?_
  rintro e_ w_ ⟨rfl, ⟨nd_, rfl⟩⟩
  obtain ⟨km_52, hm_53⟩ := (laws_markByteS.E l0 1 (by omega) (by omega) (by omega)).rounds; replace hm_53 := Aside0.mk hm_53
  go_wp2_with fail
  refine (laws_markByteS.calls km_52 (fun k_ => w_15.heap.size ≤ k_ ∧ k_ < w_18.heap.size) _ l0 1 _ _ w _ (by repeat (first | exact HB.out | apply pw_below_drewN | apply below_drew)) (by repeat (first | exact HO_24.out | (with_reducible refine Kd.R_drewN ?_ _) | (with_reducible refine Kd.R_drew ?_))) hm_53.out).mono ?_
  rintro e_ w_51 ⟨rfl, hn_, hb_, hk_⟩
  have NX_ := Aside0.mk (Kd.R_reok rfl hn_ (fun k_ hk_ => HO_24.out.1 k_ hk_)); clear hn_
  have N_ := Aside0.mk (Kd.S_kept (by repeat (first | exact HO_13.out | (with_reducible refine Kd.S_drewN ?_ _) | (with_reducible refine Kd.S_drew ?_))) hk_ (fun k_ hk_ hn_ => by have z1_ := hk_.1; have z2_ := hk_.2; have z3_ := hn_.1; have z4_ := hn_.2; have := HZ_8.out; have := HZ_14.out; have := HZ_17.out; have := HZ_25.out; have := HZ_31.out; have := HZ_34.out; have := HZ_38.out; have := HZ_40.out; have := HZ_48.out; omega)); clear HO_13; have HO_13 := N_; clear N_
  have N_ := Aside0.mk (Kd.S_kept (by repeat (first | exact HO_30.out | (with_reducible refine Kd.S_drewN ?_ _) | (with_reducible refine Kd.S_drew ?_))) hk_ (fun k_ hk_ hn_ => by have z1_ := hk_.1; have z2_ := hk_.2; have z3_ := hn_.1; have z4_ := hn_.2; have := HZ_8.out; have := HZ_14.out; have := HZ_17.out; have := HZ_25.out; have := HZ_31.out; have := HZ_34.out; have := HZ_38.out; have := HZ_40.out; have := HZ_48.out; omega)); clear HO_30; have HO_30 := N_; clear N_
  have N_ := Aside0.mk ((hk_.2 _ (blk_lt HQ_16.out) (fun hn_ => by have z3_ := hn_.1; have z4_ := hn_.2; have := HZ_8.out; have := HZ_14.out; have := HZ_17.out; have := HZ_25.out; have := HZ_31.out; have := HZ_34.out; have := HZ_38.out; have := HZ_40.out; have := HZ_48.out; omega)).trans HQ_16.out); clear HQ_16; have HQ_16 := N_; clear N_
  have N_ := Aside0.mk ((hk_.2 _ (blk_lt HQ_33.out) (fun hn_ => by have z3_ := hn_.1; have z4_ := hn_.2; have := HZ_8.out; have := HZ_14.out; have := HZ_17.out; have := HZ_25.out; have := HZ_31.out; have := HZ_34.out; have := HZ_38.out; have := HZ_40.out; have := HZ_48.out; omega)).trans HQ_33.out); clear HQ_33; have HQ_33 := N_; clear N_
  clear HO_24; have HO_24 := NX_; clear NX_
  have hz_ : w_41.heap.size ≤ w_51.heap.size := hk_.1; have HZm53_ := Aside0.mk hz_; clear hz_
  clear HB; have HB := Aside0.mk hb_; clear hb_ hk_
  obtain ⟨kk_, he_⟩ : ∃ q_ : Int, q_ = 1 + ((l0.length : Nat) : Int) := ⟨_, rfl⟩; rw [← he_]
  have dk_ : decide (kk_ < 0) = false := decide_eq_false (by omega)
  clear he_
  obtain ⟨ke_54, he_55⟩ := (laws_eqSegS.T r0 (by omega) HRX0.out).rounds; replace he_55 := Aside0.mk he_55
  go_wp2_with fail
  refine (laws_eqSegS.calls ke_54 _ _ r0 _ _ r0 true _ (by repeat (first | exact (Kd.S_reads' HO_30.out).2.2 | (with_reducible refine Kd.C_drewN ?_ _) | (with_reducible refine Kd.C_drew ?_))) (Kd.S_reads' HO_30.out).2.1 (by repeat (first | exact (Kd.S_reads' HO_13.out).2.2 | (with_reducible refine Kd.C_drewN ?_ _) | (with_reducible refine Kd.C_drew ?_))) (Kd.S_reads' HO_13.out).2.1 he_55.out).mono ?_
  rintro e_ w_56 ⟨rfl, hb_⟩
  have hz_ : w_51.heap.size ≤ w_56.heap.size := hb_.size; have HZ_57 := Aside0.mk hz_; clear hz_
  have N_ := Aside0.mk (Kd.S_below (by repeat (first | exact HO_13.out | (with_reducible refine Kd.S_drewN ?_ _) | (with_reducible refine Kd.S_drew ?_))) hb_); clear HO_13; have HO_13 := N_; clear N_
  have N_ := Aside0.mk (Kd.R_below (by repeat (first | exact HO_24.out | (with_reducible refine Kd.R_drewN ?_ _) | (with_reducible refine Kd.R_drew ?_))) hb_); clear HO_24; have HO_24 := N_; clear N_
  have N_ := Aside0.mk (Kd.S_below (by repeat (first | exact HO_30.out | (with_reducible refine Kd.S_drewN ?_ _) | (with_reducible refine Kd.S_drew ?_))) hb_); clear HO_30; have HO_30 := N_; clear N_
  have N_ := Aside0.mk (show Below w.heap.size w w_56 from Below.trans (by repeat (first | exact HB.out | apply pw_below_drewN | apply below_drew)) (Below.mono hb_ HB.out.size)); clear HB; have HB := N_; clear N_
  have N_ := Aside0.mk (show w_56.heap[w_9.heap.size]? = some (Obj.cells #[.int .i64 r2, .int .i64 r3] 65) from (hb_.block _ (blk_lt HQ_16.out)).trans HQ_16.out); clear HQ_16; have HQ_16 := N_; clear N_
  have N_ := Aside0.mk (show w_56.heap[w_26.heap.size]? = some (Obj.cells #[.int .i64 r2, .int .i64 r3] 65) from (hb_.block _ (blk_lt HQ_33.out)).trans HQ_33.out); clear HQ_33; have HQ_33 := N_; clear N_
  clear hb_
  have ra_ := blk_cell HQ_33.out 0; have rb_ := blk_cell HQ_33.out 1; have rc_ := blk_cell HQ_16.out 0; have rd_ := blk_cell HQ_16.out 1; simp at ra_ rb_ rc_ rd_
  go_wp2_with fail
  clear ra_ rb_ rc_ rd_
  refine (laws_eqFault.calls r2 r3 r2 r3 true _ (by unfold laws_eqFault.f; rw [if_pos rfl, if_pos rfl])).mono ?_
  rintro e_ w_58 ⟨rfl, hb_⟩
  have hz_ : w_56.heap.size ≤ w_58.heap.size := hb_.size; have HZ_59 := Aside0.mk hz_; clear hz_
  have N_ := Aside0.mk (Kd.S_below (by repeat (first | exact HO_13.out | (with_reducible refine Kd.S_drewN ?_ _) | (with_reducible refine Kd.S_drew ?_))) hb_); clear HO_13; have HO_13 := N_; clear N_
  have N_ := Aside0.mk (Kd.R_below (by repeat (first | exact HO_24.out | (with_reducible refine Kd.R_drewN ?_ _) | (with_reducible refine Kd.R_drew ?_))) hb_); clear HO_24; have HO_24 := N_; clear N_
  have N_ := Aside0.mk (Kd.S_below (by repeat (first | exact HO_30.out | (with_reducible refine Kd.S_drewN ?_ _) | (with_reducible refine Kd.S_drew ?_))) hb_); clear HO_30; have HO_30 := N_; clear N_
  have N_ := Aside0.mk (show Below w.heap.size w w_58 from Below.trans (by repeat (first | exact HB.out | apply pw_below_drewN | apply below_drew)) (Below.mono hb_ HB.out.size)); clear HB; have HB := N_; clear N_
  have N_ := Aside0.mk (show w_58.heap[w_9.heap.size]? = some (Obj.cells #[.int .i64 r2, .int .i64 r3] 65) from (hb_.block _ (blk_lt HQ_16.out)).trans HQ_16.out); clear HQ_16; have HQ_16 := N_; clear N_
  have N_ := Aside0.mk (show w_58.heap[w_26.heap.size]? = some (Obj.cells #[.int .i64 r2, .int .i64 r3] 65) from (hb_.block _ (blk_lt HQ_33.out)).trans HQ_33.out); clear HQ_33; have HQ_33 := N_; clear N_
  clear hb_
  go_wp2_with fail
  refine (laws_markSegS.calls _ _ r0 1 w _ (by repeat (first | exact HB.out | apply pw_below_drewN | apply below_drew)) (by repeat (first | exact HO_30.out | (with_reducible refine Kd.S_drewN ?_ _) | (with_reducible refine Kd.S_drew ?_))) (by omega) (by omega) (by omega) HRX0.out).mono ?_
  rintro e_ w_60 ⟨rfl, hn_, hb_, hk_⟩
  have NX_ := Aside0.mk hn_; clear hn_
  have N_ := Aside0.mk (Kd.S_kept (by repeat (first | exact HO_13.out | (with_reducible refine Kd.S_drewN ?_ _) | (with_reducible refine Kd.S_drew ?_))) hk_ (fun k_ hk_ hn_ => by have z1_ := hk_.1; have z2_ := hk_.2; have z3_ := hn_.1; have z4_ := hn_.2; have := HZ_8.out; have := HZ_14.out; have := HZ_17.out; have := HZ_25.out; have := HZ_31.out; have := HZ_34.out; have := HZ_38.out; have := HZ_40.out; have := HZ_48.out; have := HZm53_.out; have := HZ_57.out; have := HZ_59.out; omega)); clear HO_13; have HO_13 := N_; clear N_
  have N_ := Aside0.mk ((hk_.2 _ (blk_lt HQ_16.out) (fun hn_ => by have z3_ := hn_.1; have z4_ := hn_.2; have := HZ_8.out; have := HZ_14.out; have := HZ_17.out; have := HZ_25.out; have := HZ_31.out; have := HZ_34.out; have := HZ_38.out; have := HZ_40.out; have := HZ_48.out; have := HZm53_.out; have := HZ_57.out; have := HZ_59.out; omega)).trans HQ_16.out); clear HQ_16; have HQ_16 := N_; clear N_
  have N_ := Aside0.mk ((hk_.2 _ (blk_lt HQ_33.out) (fun hn_ => by have z3_ := hn_.1; have z4_ := hn_.2; have := HZ_8.out; have := HZ_14.out; have := HZ_17.out; have := HZ_25.out; have := HZ_31.out; have := HZ_34.out; have := HZ_38.out; have := HZ_40.out; have := HZ_48.out; have := HZm53_.out; have := HZ_57.out; have := HZ_59.out; omega)).trans HQ_33.out); clear HQ_33; have HQ_33 := N_; clear N_
  clear HO_30; have HO_30 := NX_; clear NX_
  have hz_ : w_58.heap.size ≤ w_60.heap.size := hk_.1; have HZm60_ := Aside0.mk hz_; clear hz_
  clear HB; have HB := Aside0.mk hb_; clear hb_ hk_
  obtain ⟨m_, he_⟩ : ∃ q_ : Int, q_ = 1 + ((totS r0 : Nat) : Int) := ⟨_, rfl⟩; rw [← he_]; have hm_ := Aside0.mk he_; have ma_ : 0 ≤ m_ := (by omega); clear he_; have dm_ : decide (m_ < 0) = false := decide_eq_false (by omega)
  obtain ⟨kh_61, hh_62⟩ := (laws_heldSegS.E r0 1 (by omega) (by omega) (by omega) HRX0.out).rounds; rw [← hm_.out] at hh_62; replace hh_62 := Aside0.mk hh_62
  go_wp2_with fail
  refine (laws_heldSegS.R kh_61 _ _ _ (markL 1 r0) 1 m_ _ _ _ (by repeat (first | exact HO_30.out | (with_reducible refine Kd.S_drewN ?_ _) | (with_reducible refine Kd.S_drew ?_))) hh_62.out).mono ?_
  rintro e_ w_ ⟨rfl, ⟨nd_, rfl⟩⟩
  go_wp2_with fail
  refine (laws_toByteS.calls kt0 _ _ l0 l0 _ (by repeat (first | exact Kd.C_below HR0.out HB.out | (with_reducible refine Kd.C_drewN ?_ _) | (with_reducible refine Kd.C_drew ?_))) HC0.out HT0.out).mono ?_
  rintro e_ w_63 ⟨v_64, rfl, ho_, hb_⟩
  obtain ⟨A_67, c_68, e1_⟩ := Kd.R_slice ho_; subst e1_
  have HO_69 := Aside0.mk (Kd.R_mono (ok' := fun k_ => w_60.heap.size ≤ k_ ∧ k_ < w_63.heap.size) (Kd.R_lower (Kd.R_bound ho_) HB.out.size) (fun k_ hk_ => ⟨hk_.2.1, hk_.2.2.1⟩)); clear ho_
  have HS_ : w_60.heap.size ≤ w_63.heap.size := hb_.size
  have HZ_70 := Aside0.mk HS_; clear HS_
  have N_ := Aside0.mk (Kd.S_below (by repeat (first | exact HO_13.out | (with_reducible refine Kd.S_drewN ?_ _) | (with_reducible refine Kd.S_drew ?_))) hb_); clear HO_13; have HO_13 := N_; clear N_
  have N_ := Aside0.mk (Kd.S_below (by repeat (first | exact HO_30.out | (with_reducible refine Kd.S_drewN ?_ _) | (with_reducible refine Kd.S_drew ?_))) hb_); clear HO_30; have HO_30 := N_; clear N_
  have N_ := Aside0.mk (show Below w.heap.size w w_63 from Below.trans (by repeat (first | exact HB.out | apply pw_below_drewN | apply below_drew)) (Below.mono hb_ HB.out.size)); clear HB; have HB := N_; clear N_
  have N_ := Aside0.mk (show w_63.heap[w_9.heap.size]? = some (Obj.cells #[.int .i64 r2, .int .i64 r3] 65) from (hb_.block _ (blk_lt HQ_16.out)).trans HQ_16.out); clear HQ_16; have HQ_16 := N_; clear N_
  have N_ := Aside0.mk (show w_63.heap[w_26.heap.size]? = some (Obj.cells #[.int .i64 r2, .int .i64 r3] 65) from (hb_.block _ (blk_lt HQ_33.out)).trans HQ_33.out); clear HQ_33; have HQ_33 := N_; clear N_
  clear hb_
  go_wp2_with fail
  refine (impl_SegsSoFar.calls  _ _ l0 r0 r1 r2 r3 _ (by repeat (first | exact (Kd.R_reads' HO_69.out).2.2 | (with_reducible refine Kd.C_drewN ?_ _) | (with_reducible refine Kd.C_drew ?_))) (Kd.R_reads' HO_69.out).2.1 HI.out).mono ?_
  rintro e_ w_71 ⟨v_72, rfl, ho0_, hb_⟩
  obtain ⟨A_73, c_74, e1_⟩ := Kd.S_slice ho0_; subst e1_
  have HO_75 := Aside0.mk (Kd.S_mono (ok' := fun k_ => w_63.heap.size ≤ k_ ∧ k_ < w_71.heap.size) (Kd.S_lower (Kd.S_bound ho0_) HB.out.size) (fun k_ hk_ => ⟨hk_.2.1, hk_.2.2.1⟩)); clear ho0_
  have HS_ : w_63.heap.size ≤ w_71.heap.size := hb_.size
  have HZ_76 := Aside0.mk HS_; clear HS_
  have N_ := Aside0.mk (Kd.S_below (by repeat (first | exact HO_13.out | (with_reducible refine Kd.S_drewN ?_ _) | (with_reducible refine Kd.S_drew ?_))) hb_); clear HO_13; have HO_13 := N_; clear N_
  have N_ := Aside0.mk (Kd.S_below (by repeat (first | exact HO_30.out | (with_reducible refine Kd.S_drewN ?_ _) | (with_reducible refine Kd.S_drew ?_))) hb_); clear HO_30; have HO_30 := N_; clear N_
  have N_ := Aside0.mk (Kd.R_below (by repeat (first | exact HO_69.out | (with_reducible refine Kd.R_drewN ?_ _) | (with_reducible refine Kd.R_drew ?_))) hb_); clear HO_69; have HO_69 := N_; clear N_
  have N_ := Aside0.mk (show Below w.heap.size w w_71 from Below.trans (by repeat (first | exact HB.out | apply pw_below_drewN | apply below_drew)) (Below.mono hb_ HB.out.size)); clear HB; have HB := N_; clear N_
  have N_ := Aside0.mk (show w_71.heap[w_9.heap.size]? = some (Obj.cells #[.int .i64 r2, .int .i64 r3] 65) from (hb_.block _ (blk_lt HQ_16.out)).trans HQ_16.out); clear HQ_16; have HQ_16 := N_; clear N_
  have N_ := Aside0.mk (show w_71.heap[w_26.heap.size]? = some (Obj.cells #[.int .i64 r2, .int .i64 r3] 65) from (hb_.block _ (blk_lt HQ_33.out)).trans HQ_33.out); clear HQ_33; have HQ_33 := N_; clear N_
  clear hb_
  go_wp2_with fail
  have hb_ := below_alloc (Below.refl w_71.heap.size w_71) (Obj.cells #[.int .i64 r2, .int .i64 r3] 65)
  have hq_ := blk_new w_71 (Obj.cells #[.int .i64 r2, .int .i64 r3] 65)
  generalize w_71.alloc (Obj.cells #[.int .i64 r2, .int .i64 r3] 65) = w_77 at hb_ hq_ ⊢
  have N_ := Aside0.mk (Kd.S_below (by repeat (first | exact HO_13.out | (with_reducible refine Kd.S_drewN ?_ _) | (with_reducible refine Kd.S_drew ?_))) hb_); clear HO_13; have HO_13 := N_; clear N_
  have N_ := Aside0.mk (Kd.S_below (by repeat (first | exact HO_30.out | (with_reducible refine Kd.S_drewN ?_ _) | (with_reducible refine Kd.S_drew ?_))) hb_); clear HO_30; have HO_30 := N_; clear N_
  have N_ := Aside0.mk (Kd.R_below (by repeat (first | exact HO_69.out | (with_reducible refine Kd.R_drewN ?_ _) | (with_reducible refine Kd.R_drew ?_))) hb_); clear HO_69; have HO_69 := N_; clear N_
  have N_ := Aside0.mk (Kd.S_below (by repeat (first | exact HO_75.out | (with_reducible refine Kd.S_drewN ?_ _) | (with_reducible refine Kd.S_drew ?_))) hb_); clear HO_75; have HO_75 := N_; clear N_
  have N_ := Aside0.mk (show Below w.heap.size w w_77 from Below.trans (by repeat (first | exact HB.out | apply pw_below_drewN | apply below_drew)) (Below.mono hb_ HB.out.size)); clear HB; have HB := N_; clear N_
  have N_ := Aside0.mk (show w_77.heap[w_9.heap.size]? = some (Obj.cells #[.int .i64 r2, .int .i64 r3] 65) from (hb_.block _ (blk_lt HQ_16.out)).trans HQ_16.out); clear HQ_16; have HQ_16 := N_; clear N_
  have N_ := Aside0.mk (show w_77.heap[w_26.heap.size]? = some (Obj.cells #[.int .i64 r2, .int .i64 r3] 65) from (hb_.block _ (blk_lt HQ_33.out)).trans HQ_33.out); clear HQ_33; have HQ_33 := N_; clear N_
  have HQ_78 := Aside0.mk (show w_77.heap[w_71.heap.size]? = some (Obj.cells #[.int .i64 r2, .int .i64 r3] 65) from hq_)
  have hz_ : w_71.heap.size + 1 ≤ w_77.heap.size := blk_lt hq_; have HZ_79 := Aside0.mk hz_; clear hz_ hb_ hq_
  obtain ⟨ke_80, he_81⟩ := (laws_eqSegS.T r0 (by omega) HRX0.out).rounds; replace he_81 := Aside0.mk he_81
  refine (laws_eqSegS.calls ke_80 _ _ r0 _ _ r0 true _ (by repeat (first | exact (Kd.S_reads' HO_75.out).2.2 | (with_reducible refine Kd.C_drewN ?_ _) | (with_reducible refine Kd.C_drew ?_))) (Kd.S_reads' HO_75.out).2.1 (by repeat (first | exact (Kd.S_reads' HO_13.out).2.2 | (with_reducible refine Kd.C_drewN ?_ _) | (with_reducible refine Kd.C_drew ?_))) (Kd.S_reads' HO_13.out).2.1 he_81.out).mono ?_
  rintro e_ w_82 ⟨rfl, hb_⟩
  have hz_ : w_77.heap.size ≤ w_82.heap.size := hb_.size; have HZ_83 := Aside0.mk hz_; clear hz_
  have N_ := Aside0.mk (Kd.S_below (by repeat (first | exact HO_13.out | (with_reducible refine Kd.S_drewN ?_ _) | (with_reducible refine Kd.S_drew ?_))) hb_); clear HO_13; have HO_13 := N_; clear N_
  have N_ := Aside0.mk (Kd.S_below (by repeat (first | exact HO_30.out | (with_reducible refine Kd.S_drewN ?_ _) | (with_reducible refine Kd.S_drew ?_))) hb_); clear HO_30; have HO_30 := N_; clear N_
  have N_ := Aside0.mk (Kd.S_below (by repeat (first | exact HO_75.out | (with_reducible refine Kd.S_drewN ?_ _) | (with_reducible refine Kd.S_drew ?_))) hb_); clear HO_75; have HO_75 := N_; clear N_
  have N_ := Aside0.mk (show Below w.heap.size w w_82 from Below.trans (by repeat (first | exact HB.out | apply pw_below_drewN | apply below_drew)) (Below.mono hb_ HB.out.size)); clear HB; have HB := N_; clear N_
  have N_ := Aside0.mk (show w_82.heap[w_9.heap.size]? = some (Obj.cells #[.int .i64 r2, .int .i64 r3] 65) from (hb_.block _ (blk_lt HQ_16.out)).trans HQ_16.out); clear HQ_16; have HQ_16 := N_; clear N_
  have N_ := Aside0.mk (show w_82.heap[w_26.heap.size]? = some (Obj.cells #[.int .i64 r2, .int .i64 r3] 65) from (hb_.block _ (blk_lt HQ_33.out)).trans HQ_33.out); clear HQ_33; have HQ_33 := N_; clear N_
  have N_ := Aside0.mk (show w_82.heap[w_71.heap.size]? = some (Obj.cells #[.int .i64 r2, .int .i64 r3] 65) from (hb_.block _ (blk_lt HQ_78.out)).trans HQ_78.out); clear HQ_78; have HQ_78 := N_; clear N_
  clear hb_
  have ra_ := blk_cell HQ_78.out 0; have rb_ := blk_cell HQ_78.out 1; have rc_ := blk_cell HQ_16.out 0; have rd_ := blk_cell HQ_16.out 1; simp at ra_ rb_ rc_ rd_
  go_wp2_with fail
  clear ra_ rb_ rc_ rd_
  refine (laws_eqFault.calls r2 r3 r2 r3 true _ (by unfold laws_eqFault.f; rw [if_pos rfl, if_pos rfl])).mono ?_
  rintro e_ w_84 ⟨rfl, hb_⟩
  have hz_ : w_82.heap.size ≤ w_84.heap.size := hb_.size; have HZ_85 := Aside0.mk hz_; clear hz_
  have N_ := Aside0.mk (Kd.S_below (by repeat (first | exact HO_13.out | (with_reducible refine Kd.S_drewN ?_ _) | (with_reducible refine Kd.S_drew ?_))) hb_); clear HO_13; have HO_13 := N_; clear N_
  have N_ := Aside0.mk (Kd.S_below (by repeat (first | exact HO_30.out | (with_reducible refine Kd.S_drewN ?_ _) | (with_reducible refine Kd.S_drew ?_))) hb_); clear HO_30; have HO_30 := N_; clear N_
  have N_ := Aside0.mk (Kd.S_below (by repeat (first | exact HO_75.out | (with_reducible refine Kd.S_drewN ?_ _) | (with_reducible refine Kd.S_drew ?_))) hb_); clear HO_75; have HO_75 := N_; clear N_
  have N_ := Aside0.mk (show Below w.heap.size w w_84 from Below.trans (by repeat (first | exact HB.out | apply pw_below_drewN | apply below_drew)) (Below.mono hb_ HB.out.size)); clear HB; have HB := N_; clear N_
  have N_ := Aside0.mk (show w_84.heap[w_9.heap.size]? = some (Obj.cells #[.int .i64 r2, .int .i64 r3] 65) from (hb_.block _ (blk_lt HQ_16.out)).trans HQ_16.out); clear HQ_16; have HQ_16 := N_; clear N_
  have N_ := Aside0.mk (show w_84.heap[w_26.heap.size]? = some (Obj.cells #[.int .i64 r2, .int .i64 r3] 65) from (hb_.block _ (blk_lt HQ_33.out)).trans HQ_33.out); clear HQ_33; have HQ_33 := N_; clear N_
  have N_ := Aside0.mk (show w_84.heap[w_71.heap.size]? = some (Obj.cells #[.int .i64 r2, .int .i64 r3] 65) from (hb_.block _ (blk_lt HQ_78.out)).trans HQ_78.out); clear HQ_78; have HQ_78 := N_; clear N_
  clear hb_
  obtain ⟨kh_86, hh_87⟩ := (laws_heldSegS.E r0 1 (by omega) (by omega) (by omega) HRX0.out).rounds; rw [← hm_.out] at hh_87; replace hh_87 := Aside0.mk hh_87
  go_wp2_with fail
  refine (laws_heldSegS.R kh_86 _ _ _ (markL 1 r0) 1 m_ _ _ _ (by repeat (first | exact HO_30.out | (with_reducible refine Kd.S_drewN ?_ _) | (with_reducible refine Kd.S_drew ?_))) hh_87.out).mono ?_
  rintro e_ w_ ⟨rfl, ⟨nd_, rfl⟩⟩
  go_wp2
  go_ret
  exact ⟨rfl, by repeat (first | exact HB.out | apply pw_below_drewN | apply below_drew)⟩

end Go.Proofs.Ytcjjmfpkhhdmlaa.G
