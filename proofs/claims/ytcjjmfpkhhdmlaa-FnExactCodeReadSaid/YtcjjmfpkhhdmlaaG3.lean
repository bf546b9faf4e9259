-- Written by gp.py (a program of this session's, over the kit's print). Not trusted: Lean checks it.
import Derived.Test.YtcjjmfpkhhdmlaaG0h
import Derived.Test.YtcjjmfpkhhdmlaaG15
import Derived.Test.YtcjjmfpkhhdmlaaG16
import Derived.Test.YtcjjmfpkhhdmlaaG17
import Derived.Test.YtcjjmfpkhhdmlaaG18
import Derived.Test.YtcjjmfpkhhdmlaaG19
import Derived.Test.YtcjjmfpkhhdmlaaG20
import Derived.Test.YtcjjmfpkhhdmlaaG21
import Derived.Test.YtcjjmfpkhhdmlaaG22
import Derived.Test.YtcjjmfpkhhdmlaaG23
import Derived.Test.YtcjjmfpkhhdmlaaGCodes
import Derived.Test.YtcjjmfpkhhdmlaaGLib
import Derived.Test.YtcjjmfpkhhdmlaaGReader
namespace Go.Proofs.Ytcjjmfpkhhdmlaa.G
open Go.RowKit Go.Proofs.YtcjjmfpkhhdmlaaW.PrintWords Go.Proofs.YtcjjmfpkhhdmlaaW.PrintLast Go.Proofs.YtcjjmfpkhhdmlaaW.PrintMore
attribute [local go_sem] max2_int min2_int max_two min_two max_three min_three max_four min_four   -- for this text's walks alone
set_option linter.unusedVariables false
set_option linter.unusedSimpArgs false

/-! ### laws_FnExactCodeRead: function 3 -/
/- The law FnExactCodeRead: for all arguments the program's CodeRead answers as the reference's, writes into none of them and keeps nothing of them. No condition. -/
theorem readM_len (codes : List S124) (b : List Int) : ∀ (n p : Nat) (r : List Int), readM codes b n p = some r → r.length = n := by
  intro n
  induction n with
  | zero => intro p r h; simp only [readM, Option.some.injEq] at h; subst h; rfl
  | succ n ih =>
    intro p r h
    simp only [readM] at h
    split at h
    · cases h
    · rename_i s q hs
      obtain ⟨t, ht, rfl⟩ := Option.map_eq_some_iff.1 h
      simp [ih _ _ ht]
theorem codeReadM_len (l0 l1 : List Int) (a2 : Int) : (codeReadM l0 l1 a2).1.length ≤ 60000 := by
  unfold codeReadM
  split
  · rename_i hc
    split
    · rename_i r hr
      have := readM_len _ _ _ _ _ hr
      simp only []; omega
    · simp
  · simp
theorem same_CodeRead (l0 l1 : List Int) (a2 : Int) (h0 : l0.length ≤ 1048576) (h1 : l1.length ≤ 1048576) (hw0 : l0.length ≤ 9223372036854775807 ∧ ∀ x_ ∈ l0, (Lit.int .i64 x_).wf = true) (hw1 : l1.length ≤ 9223372036854775807 ∧ ∀ x_ ∈ l1, (Lit.int .u8 x_).wf = true) (hw2 : (Lit.int .i64 a2).wf = true) :
    ∃ r0 r1, Ev (fun _ => spec_CodeRead.f l0 l1 a2) (r0, r1) ∧ Ev (fun _ => impl_CodeRead.f l0 l1 a2) (r0, r1) ∧ r0.length ≤ 1048576 := by
  have hB : isB l1 = true := by
    unfold isB
    simp only [List.all_eq_true, Bool.and_eq_true, decide_eq_true_eq]
    exact fun x hx => wf_u8 (hw1.2 x hx)
  exact ⟨(codeReadM l0 l1 a2).1, (codeReadM l0 l1 a2).2, Ev.c (show spec_CodeRead.f l0 l1 a2 = some (codeReadM l0 l1 a2) by unfold spec_CodeRead.f; rw [if_pos ⟨hB, h1, h0⟩]), Ev.c (show impl_CodeRead.f l0 l1 a2 = some (codeReadM l0 l1 a2) by unfold impl_CodeRead.f; rw [if_pos ⟨hB, h1, h0⟩]), by have := codeReadM_len l0 l1 a2; omega⟩
set_option maxHeartbeats 8000000 in
set_option maxRecDepth 100000 in
theorem laws_FnExactCodeRead.law (A0 : Option Addr) (c0 : Nat) (l0 : List Int) (A1 : Option Addr) (c1 : Nat) (l1 : List Int) (a2 : Int) (w : World) (hr0 : Kd.C (Kd.int .i64) w A0 l0.length l0) (hc0 : l0.length ≤ c0) (hr1 : Kd.C (Kd.int .u8) w A1 l1.length l1) (hc1 : l1.length ≤ c1) (hw0 : l0.length ≤ 9223372036854775807 ∧ ∀ x_ ∈ l0, (Lit.int .i64 x_).wf = true) (hw1 : l1.length ≤ 9223372036854775807 ∧ ∀ x_ ∈ l1, (Lit.int .u8 x_).wf = true) (hw2 : (Lit.int .i64 a2).wf = true) :
    Calls Try.prog 3 #[.slice A0 l0.length c0, .slice A1 l1.length c1, .int .i64 a2] w fun e w' => e = .returned (.bool true) ∧ Below w.heap.size w w' := by
  have HR0 := Aside0.mk hr0; have HC0 := Aside0.mk hc0; clear hr0 hc0
  have HR1 := Aside0.mk hr1; have HC1 := Aside0.mk hc1; clear hr1 hc1
  have HW0 := Aside0.mk hw0; clear hw0
  have HW1 := Aside0.mk hw1; clear hw1
  have HW2 := Aside0.mk hw2; clear hw2
  by_cases g0 : l0.length > 1048576
  · have d1_ : decide ((1048576 : Int) < (l0.length : Int)) = true := decide_eq_true (by omega)
    have d2_ : decide (1048576 < l0.length) = true := decide_eq_true g0
    clear g0
    go_enter Try.func3, Try.ntmps3
    go_wp2
    go_ret
    exact ⟨rfl, Below.refl _ _⟩
  have dg0 : decide ((1048576 : Int) < (l0.length : Int)) = false := decide_eq_false (by omega)
  have dn0 : decide (1048576 < l0.length) = false := decide_eq_false g0
  have hl0 : l0.length ≤ 1048576 := by omega
  clear g0
  by_cases g1 : l1.length > 1048576
  · have d1_ : decide ((1048576 : Int) < (l1.length : Int)) = true := decide_eq_true (by omega)
    have d2_ : decide (1048576 < l1.length) = true := decide_eq_true g1
    clear g1
    go_enter Try.func3, Try.ntmps3
    go_wp2
    go_ret
    exact ⟨rfl, Below.refl _ _⟩
  have dg1 : decide ((1048576 : Int) < (l1.length : Int)) = false := decide_eq_false (by omega)
  have dn1 : decide (1048576 < l1.length) = false := decide_eq_false g1
  have hl1 : l1.length ≤ 1048576 := by omega
  clear g1
  obtain ⟨kt0, ht0⟩ := (laws_toIntS.E l0 (by omega)).rounds; have HT0 := Aside0.mk ht0; clear ht0
  obtain ⟨kt1, ht1⟩ := (laws_toByteS.E l1 (by omega)).rounds; have HT1 := Aside0.mk ht1; clear ht1
  obtain ⟨r0, r1, hsp_, him_, hrl0⟩ := same_CodeRead l0 l1 a2 hl0 hl1 HW0.out HW1.out HW2.out
  obtain ⟨ks_, hks_⟩ := hsp_.rounds; obtain ⟨ki_, hki_⟩ := him_.rounds; have HF := Aside0.mk hks_; have HI := Aside0.mk hki_; clear hsp_ him_ hks_ hki_
  have HB := Aside0.mk (Below.refl w.heap.size w)
  go_enter Try.func3, Try.ntmps3
  go_wp2_with fail
  refine (laws_toIntS.calls kt0 _ _ l0 l0 _ (by repeat (first | exact Kd.C_below HR0.out HB.out | (with_reducible refine Kd.C_drewN ?_ _) | (with_reducible refine Kd.C_drew ?_))) HC0.out HT0.out).mono ?_
  rintro e_ w_1 ⟨v_2, rfl, ho_, hb_⟩
  obtain ⟨A_5, c_6, e1_⟩ := Kd.R_slice ho_; subst e1_
  have HO_7 := Aside0.mk (Kd.R_mono (ok' := fun k_ => w.heap.size ≤ k_ ∧ k_ < w_1.heap.size) (Kd.R_lower (Kd.R_bound ho_) HB.out.size) (fun k_ hk_ => ⟨hk_.2.1, hk_.2.2.1⟩)); clear ho_
  have HS_ : w.heap.size ≤ w_1.heap.size := hb_.size
  have HZ_8 := Aside0.mk HS_; clear HS_
  have N_ := Aside0.mk (show Below w.heap.size w w_1 from Below.trans (by repeat (first | exact HB.out | apply pw_below_drewN | apply below_drew)) (Below.mono hb_ HB.out.size)); clear HB; have HB := N_; clear N_
  clear hb_
  go_wp2_with fail
  refine (laws_toByteS.calls kt1 _ _ l1 l1 _ (by repeat (first | exact Kd.C_below HR1.out HB.out | (with_reducible refine Kd.C_drewN ?_ _) | (with_reducible refine Kd.C_drew ?_))) HC1.out HT1.out).mono ?_
  rintro e_ w_9 ⟨v_10, rfl, ho_, hb_⟩
  obtain ⟨A_13, c_14, e1_⟩ := Kd.R_slice ho_; subst e1_
  have HO_15 := Aside0.mk (Kd.R_mono (ok' := fun k_ => w_1.heap.size ≤ k_ ∧ k_ < w_9.heap.size) (Kd.R_lower (Kd.R_bound ho_) HB.out.size) (fun k_ hk_ => ⟨hk_.2.1, hk_.2.2.1⟩)); clear ho_
  have HS_ : w_1.heap.size ≤ w_9.heap.size := hb_.size
  have HZ_16 := Aside0.mk HS_; clear HS_
  have N_ := Aside0.mk (Kd.R_below (by repeat (first | exact HO_7.out | (with_reducible refine Kd.R_drewN ?_ _) | (with_reducible refine Kd.R_drew ?_))) hb_); clear HO_7; have HO_7 := N_; clear N_
  have N_ := Aside0.mk (show Below w.heap.size w w_9 from Below.trans (by repeat (first | exact HB.out | apply pw_below_drewN | apply below_drew)) (Below.mono hb_ HB.out.size)); clear HB; have HB := N_; clear N_
  clear hb_
  go_wp2_with fail
  refine (spec_CodeRead.calls  _ _ l0 _ _ l1 a2 r0 r1 _ (by repeat (first | exact (Kd.R_reads' HO_7.out).2.2 | (with_reducible refine Kd.C_drewN ?_ _) | (with_reducible refine Kd.C_drew ?_))) (Kd.R_reads' HO_7.out).2.1 (by repeat (first | exact (Kd.R_reads' HO_15.out).2.2 | (with_reducible refine Kd.C_drewN ?_ _) | (with_reducible refine Kd.C_drew ?_))) (Kd.R_reads' HO_15.out).2.1 HF.out).mono ?_
  rintro e_ w_17 ⟨v_18, rfl, ho0_, hb_⟩
  obtain ⟨A_19, c_20, e1_⟩ := Kd.R_slice ho0_; subst e1_
  have HO_21 := Aside0.mk (Kd.R_mono (ok' := fun k_ => w_9.heap.size ≤ k_ ∧ k_ < w_17.heap.size) (Kd.R_lower (Kd.R_bound ho0_) HB.out.size) (fun k_ hk_ => ⟨hk_.2.1, hk_.2.2.1⟩)); clear ho0_
  have HS_ : w_9.heap.size ≤ w_17.heap.size := hb_.size
  have HZ_22 := Aside0.mk HS_; clear HS_
  have N_ := Aside0.mk (Kd.R_below (by repeat (first | exact HO_7.out | (with_reducible refine Kd.R_drewN ?_ _) | (with_reducible refine Kd.R_drew ?_))) hb_); clear HO_7; have HO_7 := N_; clear N_
  have N_ := Aside0.mk (Kd.R_below (by repeat (first | exact HO_15.out | (with_reducible refine Kd.R_drewN ?_ _) | (with_reducible refine Kd.R_drew ?_))) hb_); clear HO_15; have HO_15 := N_; clear N_
  have N_ := Aside0.mk (show Below w.heap.size w w_17 from Below.trans (by repeat (first | exact HB.out | apply pw_below_drewN | apply below_drew)) (Below.mono hb_ HB.out.size)); clear HB; have HB := N_; clear N_
  clear hb_
  go_wp2_with fail
  refine (laws_toIntS.calls kt0 _ _ l0 l0 _ (by repeat (first | exact Kd.C_below HR0.out HB.out | (with_reducible refine Kd.C_drewN ?_ _) | (with_reducible refine Kd.C_drew ?_))) HC0.out HT0.out).mono ?_
  rintro e_ w_23 ⟨v_24, rfl, ho_, hb_⟩
  obtain ⟨A_27, c_28, e1_⟩ := Kd.R_slice ho_; subst e1_
  have HO_29 := Aside0.mk (Kd.R_mono (ok' := fun k_ => w_17.heap.size ≤ k_ ∧ k_ < w_23.heap.size) (Kd.R_lower (Kd.R_bound ho_) HB.out.size) (fun k_ hk_ => ⟨hk_.2.1, hk_.2.2.1⟩)); clear ho_
  have HS_ : w_17.heap.size ≤ w_23.heap.size := hb_.size
  have HZ_30 := Aside0.mk HS_; clear HS_
  have N_ := Aside0.mk (Kd.R_below (by repeat (first | exact HO_21.out | (with_reducible refine Kd.R_drewN ?_ _) | (with_reducible refine Kd.R_drew ?_))) hb_); clear HO_21; have HO_21 := N_; clear N_
  have N_ := Aside0.mk (show Below w.heap.size w w_23 from Below.trans (by repeat (first | exact HB.out | apply pw_below_drewN | apply below_drew)) (Below.mono hb_ HB.out.size)); clear HB; have HB := N_; clear N_
  clear hb_
  go_wp2_with fail
  refine (laws_toByteS.calls kt1 _ _ l1 l1 _ (by repeat (first | exact Kd.C_below HR1.out HB.out | (with_reducible refine Kd.C_drewN ?_ _) | (with_reducible refine Kd.C_drew ?_))) HC1.out HT1.out).mono ?_
  rintro e_ w_31 ⟨v_32, rfl, ho_, hb_⟩
  obtain ⟨A_35, c_36, e1_⟩ := Kd.R_slice ho_; subst e1_
  have HO_37 := Aside0.mk (Kd.R_mono (ok' := fun k_ => w_23.heap.size ≤ k_ ∧ k_ < w_31.heap.size) (Kd.R_lower (Kd.R_bound ho_) HB.out.size) (fun k_ hk_ => ⟨hk_.2.1, hk_.2.2.1⟩)); clear ho_
  have HS_ : w_23.heap.size ≤ w_31.heap.size := hb_.size
  have HZ_38 := Aside0.mk HS_; clear HS_
  have N_ := Aside0.mk (Kd.R_below (by repeat (first | exact HO_21.out | (with_reducible refine Kd.R_drewN ?_ _) | (with_reducible refine Kd.R_drew ?_))) hb_); clear HO_21; have HO_21 := N_; clear N_
  have N_ := Aside0.mk (Kd.R_below (by repeat (first | exact HO_29.out | (with_reducible refine Kd.R_drewN ?_ _) | (with_reducible refine Kd.R_drew ?_))) hb_); clear HO_29; have HO_29 := N_; clear N_
  have N_ := Aside0.mk (show Below w.heap.size w w_31 from Below.trans (by repeat (first | exact HB.out | apply pw_below_drewN | apply below_drew)) (Below.mono hb_ HB.out.size)); clear HB; have HB := N_; clear N_
  clear hb_
  go_wp2_with fail
  refine (impl_CodeRead.calls  _ _ l0 _ _ l1 a2 r0 r1 _ (by repeat (first | exact (Kd.R_reads' HO_29.out).2.2 | (with_reducible refine Kd.C_drewN ?_ _) | (with_reducible refine Kd.C_drew ?_))) (Kd.R_reads' HO_29.out).2.1 (by repeat (first | exact (Kd.R_reads' HO_37.out).2.2 | (with_reducible refine Kd.C_drewN ?_ _) | (with_reducible refine Kd.C_drew ?_))) (Kd.R_reads' HO_37.out).2.1 HI.out).mono ?_
  rintro e_ w_39 ⟨v_40, rfl, ho0_, hb_⟩
  obtain ⟨A_41, c_42, e1_⟩ := Kd.R_slice ho0_; subst e1_
  have HO_43 := Aside0.mk (Kd.R_mono (ok' := fun k_ => w_31.heap.size ≤ k_ ∧ k_ < w_39.heap.size) (Kd.R_lower (Kd.R_bound ho0_) HB.out.size) (fun k_ hk_ => ⟨hk_.2.1, hk_.2.2.1⟩)); clear ho0_
  have HS_ : w_31.heap.size ≤ w_39.heap.size := hb_.size
  have HZ_44 := Aside0.mk HS_; clear HS_
  have N_ := Aside0.mk (Kd.R_below (by repeat (first | exact HO_21.out | (with_reducible refine Kd.R_drewN ?_ _) | (with_reducible refine Kd.R_drew ?_))) hb_); clear HO_21; have HO_21 := N_; clear N_
  have N_ := Aside0.mk (Kd.R_below (by repeat (first | exact HO_29.out | (with_reducible refine Kd.R_drewN ?_ _) | (with_reducible refine Kd.R_drew ?_))) hb_); clear HO_29; have HO_29 := N_; clear N_
  have N_ := Aside0.mk (Kd.R_below (by repeat (first | exact HO_37.out | (with_reducible refine Kd.R_drewN ?_ _) | (with_reducible refine Kd.R_drew ?_))) hb_); clear HO_37; have HO_37 := N_; clear N_
  have N_ := Aside0.mk (show Below w.heap.size w w_39 from Below.trans (by repeat (first | exact HB.out | apply pw_below_drewN | apply below_drew)) (Below.mono hb_ HB.out.size)); clear HB; have HB := N_; clear N_
  clear hb_
  obtain ⟨ke_45, he_46⟩ := (laws_eqIntS.T r0 (by omega)).rounds
  replace he_46 := Aside0.mk he_46
  go_wp2_with fail
  refine (laws_eqIntS.calls ke_45 _ _ r0 _ _ r0 true _ (by repeat (first | exact (Kd.R_reads' HO_43.out).2.2 | (with_reducible refine Kd.C_drewN ?_ _) | (with_reducible refine Kd.C_drew ?_))) (Kd.R_reads' HO_43.out).2.1 (by repeat (first | exact (Kd.R_reads' HO_21.out).2.2 | (with_reducible refine Kd.C_drewN ?_ _) | (with_reducible refine Kd.C_drew ?_))) (Kd.R_reads' HO_21.out).2.1 he_46.out).mono ?_
  rintro e_ w_ ⟨rfl, ⟨nd_, rfl⟩⟩
  go_wp2_with fail
  refine (laws_toIntS.calls kt0 _ _ l0 l0 _ (by repeat (first | exact Kd.C_below HR0.out HB.out | (with_reducible refine Kd.C_drewN ?_ _) | (with_reducible refine Kd.C_drew ?_))) HC0.out HT0.out).mono ?_
  rintro e_ w_47 ⟨v_48, rfl, ho_, hb_⟩
  obtain ⟨A_51, c_52, e1_⟩ := Kd.R_slice ho_; subst e1_
  have HO_53 := Aside0.mk (Kd.R_mono (ok' := fun k_ => w_39.heap.size ≤ k_ ∧ k_ < w_47.heap.size) (Kd.R_lower (Kd.R_bound ho_) HB.out.size) (fun k_ hk_ => ⟨hk_.2.1, hk_.2.2.1⟩)); clear ho_
  have HS_ : w_39.heap.size ≤ w_47.heap.size := hb_.size
  have HZ_54 := Aside0.mk HS_; clear HS_
  have N_ := Aside0.mk (Kd.R_below (by repeat (first | exact HO_21.out | (with_reducible refine Kd.R_drewN ?_ _) | (with_reducible refine Kd.R_drew ?_))) hb_); clear HO_21; have HO_21 := N_; clear N_
  have N_ := Aside0.mk (Kd.R_below (by repeat (first | exact HO_29.out | (with_reducible refine Kd.R_drewN ?_ _) | (with_reducible refine Kd.R_drew ?_))) hb_); clear HO_29; have HO_29 := N_; clear N_
  have N_ := Aside0.mk (Kd.R_below (by repeat (first | exact HO_37.out | (with_reducible refine Kd.R_drewN ?_ _) | (with_reducible refine Kd.R_drew ?_))) hb_); clear HO_37; have HO_37 := N_; clear N_
  have N_ := Aside0.mk (Kd.R_below (by repeat (first | exact HO_43.out | (with_reducible refine Kd.R_drewN ?_ _) | (with_reducible refine Kd.R_drew ?_))) hb_); clear HO_43; have HO_43 := N_; clear N_
  have N_ := Aside0.mk (show Below w.heap.size w w_47 from Below.trans (by repeat (first | exact HB.out | apply pw_below_drewN | apply below_drew)) (Below.mono hb_ HB.out.size)); clear HB; have HB := N_; clear N_
  clear hb_
  obtain ⟨ke_55, he_56⟩ := (laws_eqIntS.T l0 (by omega)).rounds
  replace he_56 := Aside0.mk he_56
  go_wp2_with fail
  refine (laws_eqIntS.calls ke_55 _ _ l0 _ _ l0 true _ (by repeat (first | exact (Kd.R_reads' HO_29.out).2.2 | (with_reducible refine Kd.C_drewN ?_ _) | (with_reducible refine Kd.C_drew ?_))) (Kd.R_reads' HO_29.out).2.1 (by repeat (first | exact (Kd.R_reads' HO_53.out).2.2 | (with_reducible refine Kd.C_drewN ?_ _) | (with_reducible refine Kd.C_drew ?_))) (Kd.R_reads' HO_53.out).2.1 he_56.out).mono ?_
  rintro e_ w_ ⟨rfl, ⟨nd_, rfl⟩⟩
  go_wp2_with fail
  refine (laws_toByteS.calls kt1 _ _ l1 l1 _ (by repeat (first | exact Kd.C_below HR1.out HB.out | (with_reducible refine Kd.C_drewN ?_ _) | (with_reducible refine Kd.C_drew ?_))) HC1.out HT1.out).mono ?_
  rintro e_ w_57 ⟨v_58, rfl, ho_, hb_⟩
  obtain ⟨A_61, c_62, e1_⟩ := Kd.R_slice ho_; subst e1_
  have HO_63 := Aside0.mk (Kd.R_mono (ok' := fun k_ => w_47.heap.size ≤ k_ ∧ k_ < w_57.heap.size) (Kd.R_lower (Kd.R_bound ho_) HB.out.size) (fun k_ hk_ => ⟨hk_.2.1, hk_.2.2.1⟩)); clear ho_
  have HS_ : w_47.heap.size ≤ w_57.heap.size := hb_.size
  have HZ_64 := Aside0.mk HS_; clear HS_
  have N_ := Aside0.mk (Kd.R_below (by repeat (first | exact HO_21.out | (with_reducible refine Kd.R_drewN ?_ _) | (with_reducible refine Kd.R_drew ?_))) hb_); clear HO_21; have HO_21 := N_; clear N_
  have N_ := Aside0.mk (Kd.R_below (by repeat (first | exact HO_29.out | (with_reducible refine Kd.R_drewN ?_ _) | (with_reducible refine Kd.R_drew ?_))) hb_); clear HO_29; have HO_29 := N_; clear N_
  have N_ := Aside0.mk (Kd.R_below (by repeat (first | exact HO_37.out | (with_reducible refine Kd.R_drewN ?_ _) | (with_reducible refine Kd.R_drew ?_))) hb_); clear HO_37; have HO_37 := N_; clear N_
  have N_ := Aside0.mk (Kd.R_below (by repeat (first | exact HO_43.out | (with_reducible refine Kd.R_drewN ?_ _) | (with_reducible refine Kd.R_drew ?_))) hb_); clear HO_43; have HO_43 := N_; clear N_
  have N_ := Aside0.mk (show Below w.heap.size w w_57 from Below.trans (by repeat (first | exact HB.out | apply pw_below_drewN | apply below_drew)) (Below.mono hb_ HB.out.size)); clear HB; have HB := N_; clear N_
  clear hb_
  obtain ⟨ke_65, he_66⟩ := (laws_eqByteS.T l1 (by omega)).rounds
  replace he_66 := Aside0.mk he_66
  go_wp2_with fail
  refine (laws_eqByteS.calls ke_65 _ _ l1 _ _ l1 true _ (by repeat (first | exact (Kd.R_reads' HO_37.out).2.2 | (with_reducible refine Kd.C_drewN ?_ _) | (with_reducible refine Kd.C_drew ?_))) (Kd.R_reads' HO_37.out).2.1 (by repeat (first | exact (Kd.R_reads' HO_63.out).2.2 | (with_reducible refine Kd.C_drewN ?_ _) | (with_reducible refine Kd.C_drew ?_))) (Kd.R_reads' HO_63.out).2.1 he_66.out).mono ?_
  rintro e_ w_ ⟨rfl, ⟨nd_, rfl⟩⟩
  obtain ⟨km_68, hm_69⟩ := (laws_markIntS.E l0 1 (by omega) (by omega) (by omega)).rounds; replace hm_69 := Aside0.mk hm_69
  go_wp2_with fail
  refine (laws_markIntS.calls km_68 (fun k_ => w_17.heap.size ≤ k_ ∧ k_ < w_23.heap.size) _ l0 1 _ _ w _ (by repeat (first | exact HB.out | apply pw_below_drewN | apply below_drew)) (by repeat (first | exact HO_29.out | (with_reducible refine Kd.R_drewN ?_ _) | (with_reducible refine Kd.R_drew ?_))) hm_69.out).mono ?_
  rintro e_ w_67 ⟨rfl, hn_, hb_, hk_⟩
  have NX_ := Aside0.mk (Kd.R_reok rfl hn_ (fun k_ hk_ => HO_29.out.1 k_ hk_)); clear hn_
  have N_ := Aside0.mk (Kd.R_kept (by repeat (first | exact HO_21.out | (with_reducible refine Kd.R_drewN ?_ _) | (with_reducible refine Kd.R_drew ?_))) hk_ (fun k_ hk_ hn_ => by have z1_ := hk_.1; have z2_ := hk_.2; have z3_ := hn_.1; have z4_ := hn_.2; have := HZ_8.out; have := HZ_16.out; have := HZ_22.out; have := HZ_30.out; have := HZ_38.out; have := HZ_44.out; have := HZ_54.out; have := HZ_64.out; omega)); clear HO_21; have HO_21 := N_; clear N_
  have N_ := Aside0.mk (Kd.R_kept (by repeat (first | exact HO_37.out | (with_reducible refine Kd.R_drewN ?_ _) | (with_reducible refine Kd.R_drew ?_))) hk_ (fun k_ hk_ hn_ => by have z1_ := hk_.1; have z2_ := hk_.2; have z3_ := hn_.1; have z4_ := hn_.2; have := HZ_8.out; have := HZ_16.out; have := HZ_22.out; have := HZ_30.out; have := HZ_38.out; have := HZ_44.out; have := HZ_54.out; have := HZ_64.out; omega)); clear HO_37; have HO_37 := N_; clear N_
  have N_ := Aside0.mk (Kd.R_kept (by repeat (first | exact HO_43.out | (with_reducible refine Kd.R_drewN ?_ _) | (with_reducible refine Kd.R_drew ?_))) hk_ (fun k_ hk_ hn_ => by have z1_ := hk_.1; have z2_ := hk_.2; have z3_ := hn_.1; have z4_ := hn_.2; have := HZ_8.out; have := HZ_16.out; have := HZ_22.out; have := HZ_30.out; have := HZ_38.out; have := HZ_44.out; have := HZ_54.out; have := HZ_64.out; omega)); clear HO_43; have HO_43 := N_; clear N_
  clear HO_29; have HO_29 := NX_; clear NX_
  have hz_ : w_57.heap.size ≤ w_67.heap.size := hk_.1; have HZm69_ := Aside0.mk hz_; clear hz_
  clear HB; have HB := Aside0.mk hb_; clear hb_ hk_
  obtain ⟨kk_70, he_⟩ : ∃ q_ : Int, q_ = 1 + ((l0.length : Nat) : Int) := ⟨_, rfl⟩; rw [← he_]
  have kk_70a : 0 ≤ kk_70 := by omega
  have kk_70b : kk_70 ≤ 1099511627777 := by omega
  clear he_
  obtain ⟨km_72, hm_73⟩ := (laws_markByteS.E l1 kk_70 (by omega) (by omega) (by omega)).rounds; replace hm_73 := Aside0.mk hm_73
  go_wp2_with fail
  refine (laws_markByteS.calls km_72 (fun k_ => w_23.heap.size ≤ k_ ∧ k_ < w_31.heap.size) _ l1 kk_70 _ _ w _ (by repeat (first | exact HB.out | apply pw_below_drewN | apply below_drew)) (by repeat (first | exact HO_37.out | (with_reducible refine Kd.R_drewN ?_ _) | (with_reducible refine Kd.R_drew ?_))) hm_73.out).mono ?_
  rintro e_ w_71 ⟨rfl, hn_, hb_, hk_⟩
  have NX_ := Aside0.mk (Kd.R_reok rfl hn_ (fun k_ hk_ => HO_37.out.1 k_ hk_)); clear hn_
  have N_ := Aside0.mk (Kd.R_kept (by repeat (first | exact HO_21.out | (with_reducible refine Kd.R_drewN ?_ _) | (with_reducible refine Kd.R_drew ?_))) hk_ (fun k_ hk_ hn_ => by have z1_ := hk_.1; have z2_ := hk_.2; have z3_ := hn_.1; have z4_ := hn_.2; have := HZ_8.out; have := HZ_16.out; have := HZ_22.out; have := HZ_30.out; have := HZ_38.out; have := HZ_44.out; have := HZ_54.out; have := HZ_64.out; have := HZm69_.out; omega)); clear HO_21; have HO_21 := N_; clear N_
  have N_ := Aside0.mk (Kd.R_kept (by repeat (first | exact HO_29.out | (with_reducible refine Kd.R_drewN ?_ _) | (with_reducible refine Kd.R_drew ?_))) hk_ (fun k_ hk_ hn_ => by have z1_ := hk_.1; have z2_ := hk_.2; have z3_ := hn_.1; have z4_ := hn_.2; have := HZ_8.out; have := HZ_16.out; have := HZ_22.out; have := HZ_30.out; have := HZ_38.out; have := HZ_44.out; have := HZ_54.out; have := HZ_64.out; have := HZm69_.out; omega)); clear HO_29; have HO_29 := N_; clear N_
  have N_ := Aside0.mk (Kd.R_kept (by repeat (first | exact HO_43.out | (with_reducible refine Kd.R_drewN ?_ _) | (with_reducible refine Kd.R_drew ?_))) hk_ (fun k_ hk_ hn_ => by have z1_ := hk_.1; have z2_ := hk_.2; have z3_ := hn_.1; have z4_ := hn_.2; have := HZ_8.out; have := HZ_16.out; have := HZ_22.out; have := HZ_30.out; have := HZ_38.out; have := HZ_44.out; have := HZ_54.out; have := HZ_64.out; have := HZm69_.out; omega)); clear HO_43; have HO_43 := N_; clear N_
  clear HO_37; have HO_37 := NX_; clear NX_
  have hz_ : w_67.heap.size ≤ w_71.heap.size := hk_.1; have HZm73_ := Aside0.mk hz_; clear hz_
  clear HB; have HB := Aside0.mk hb_; clear hb_ hk_
  obtain ⟨kk_74, he_⟩ : ∃ q_ : Int, q_ = kk_70 + ((l1.length : Nat) : Int) := ⟨_, rfl⟩; rw [← he_]
  have kk_74a : 0 ≤ kk_74 := by omega
  have kk_74b : kk_74 ≤ 2199023255553 := by omega
  clear he_
  have dk_ : decide (kk_74 < 0) = false := decide_eq_false (by omega)
  obtain ⟨ke_75, he_76⟩ := (laws_eqIntS.T r0 (by omega)).rounds
  replace he_76 := Aside0.mk he_76
  go_wp2_with fail
  refine (laws_eqIntS.calls ke_75 _ _ r0 _ _ r0 true _ (by repeat (first | exact (Kd.R_reads' HO_43.out).2.2 | (with_reducible refine Kd.C_drewN ?_ _) | (with_reducible refine Kd.C_drew ?_))) (Kd.R_reads' HO_43.out).2.1 (by repeat (first | exact (Kd.R_reads' HO_21.out).2.2 | (with_reducible refine Kd.C_drewN ?_ _) | (with_reducible refine Kd.C_drew ?_))) (Kd.R_reads' HO_21.out).2.1 he_76.out).mono ?_
  rintro e_ w_ ⟨rfl, ⟨nd_, rfl⟩⟩
  obtain ⟨km_78, hm_79⟩ := (laws_markIntS.E r0 1 (by omega) (by omega) (by omega)).rounds; replace hm_79 := Aside0.mk hm_79
  go_wp2_with fail
  refine (laws_markIntS.calls km_78 (fun k_ => w_31.heap.size ≤ k_ ∧ k_ < w_39.heap.size) _ r0 1 _ _ w _ (by repeat (first | exact HB.out | apply pw_below_drewN | apply below_drew)) (by repeat (first | exact HO_43.out | (with_reducible refine Kd.R_drewN ?_ _) | (with_reducible refine Kd.R_drew ?_))) hm_79.out).mono ?_
  rintro e_ w_77 ⟨rfl, hn_, hb_, hk_⟩
  have NX_ := Aside0.mk (Kd.R_reok rfl hn_ (fun k_ hk_ => HO_43.out.1 k_ hk_)); clear hn_
  have N_ := Aside0.mk (Kd.R_kept (by repeat (first | exact HO_21.out | (with_reducible refine Kd.R_drewN ?_ _) | (with_reducible refine Kd.R_drew ?_))) hk_ (fun k_ hk_ hn_ => by have z1_ := hk_.1; have z2_ := hk_.2; have z3_ := hn_.1; have z4_ := hn_.2; have := HZ_8.out; have := HZ_16.out; have := HZ_22.out; have := HZ_30.out; have := HZ_38.out; have := HZ_44.out; have := HZ_54.out; have := HZ_64.out; have := HZm69_.out; have := HZm73_.out; omega)); clear HO_21; have HO_21 := N_; clear N_
  have N_ := Aside0.mk (Kd.R_kept (by repeat (first | exact HO_29.out | (with_reducible refine Kd.R_drewN ?_ _) | (with_reducible refine Kd.R_drew ?_))) hk_ (fun k_ hk_ hn_ => by have z1_ := hk_.1; have z2_ := hk_.2; have z3_ := hn_.1; have z4_ := hn_.2; have := HZ_8.out; have := HZ_16.out; have := HZ_22.out; have := HZ_30.out; have := HZ_38.out; have := HZ_44.out; have := HZ_54.out; have := HZ_64.out; have := HZm69_.out; have := HZm73_.out; omega)); clear HO_29; have HO_29 := N_; clear N_
  have N_ := Aside0.mk (Kd.R_kept (by repeat (first | exact HO_37.out | (with_reducible refine Kd.R_drewN ?_ _) | (with_reducible refine Kd.R_drew ?_))) hk_ (fun k_ hk_ hn_ => by have z1_ := hk_.1; have z2_ := hk_.2; have z3_ := hn_.1; have z4_ := hn_.2; have := HZ_8.out; have := HZ_16.out; have := HZ_22.out; have := HZ_30.out; have := HZ_38.out; have := HZ_44.out; have := HZ_54.out; have := HZ_64.out; have := HZm69_.out; have := HZm73_.out; omega)); clear HO_37; have HO_37 := N_; clear N_
  clear HO_43; have HO_43 := NX_; clear NX_
  have hz_ : w_71.heap.size ≤ w_77.heap.size := hk_.1; have HZm79_ := Aside0.mk hz_; clear hz_
  clear HB; have HB := Aside0.mk hb_; clear hb_ hk_
  obtain ⟨m_80, he_⟩ : ∃ q_ : Int, q_ = 1 + ((r0.length : Nat) : Int) := ⟨_, rfl⟩; rw [← he_]; have hm_81 := Aside0.mk he_; have m_80a : 0 ≤ m_80 := (by omega); have m_80b : m_80 ≤ 4398046511104 := (by omega); clear he_
  have dm_80 : decide (m_80 < 0) = false := decide_eq_false (by omega)
  obtain ⟨kh_82, hh_83⟩ := (laws_heldIntS.E 1 r0.length (by omega) (by omega) (by omega)).rounds; rw [← hm_81.out] at hh_83; replace hh_83 := Aside0.mk hh_83
  go_wp2_with fail
  refine (laws_heldIntS.R kh_82 _ _ _ _ _ _ _ _ _ (by repeat (first | exact HO_43.out | (with_reducible refine Kd.R_drewN ?_ _) | (with_reducible refine Kd.R_drew ?_))) hh_83.out).mono ?_
  rintro e_ w_ ⟨rfl, ⟨nd_, rfl⟩⟩
  go_wp2_with fail
  refine (laws_toIntS.calls kt0 _ _ l0 l0 _ (by repeat (first | exact Kd.C_below HR0.out HB.out | (with_reducible refine Kd.C_drewN ?_ _) | (with_reducible refine Kd.C_drew ?_))) HC0.out HT0.out).mono ?_
  rintro e_ w_84 ⟨v_85, rfl, ho_, hb_⟩
  obtain ⟨A_88, c_89, e1_⟩ := Kd.R_slice ho_; subst e1_
  have HO_90 := Aside0.mk (Kd.R_mono (ok' := fun k_ => w_77.heap.size ≤ k_ ∧ k_ < w_84.heap.size) (Kd.R_lower (Kd.R_bound ho_) HB.out.size) (fun k_ hk_ => ⟨hk_.2.1, hk_.2.2.1⟩)); clear ho_
  have HS_ : w_77.heap.size ≤ w_84.heap.size := hb_.size
  have HZ_91 := Aside0.mk HS_; clear HS_
  have N_ := Aside0.mk (Kd.R_below (by repeat (first | exact HO_21.out | (with_reducible refine Kd.R_drewN ?_ _) | (with_reducible refine Kd.R_drew ?_))) hb_); clear HO_21; have HO_21 := N_; clear N_
  have N_ := Aside0.mk (Kd.R_below (by repeat (first | exact HO_43.out | (with_reducible refine Kd.R_drewN ?_ _) | (with_reducible refine Kd.R_drew ?_))) hb_); clear HO_43; have HO_43 := N_; clear N_
  have N_ := Aside0.mk (show Below w.heap.size w w_84 from Below.trans (by repeat (first | exact HB.out | apply pw_below_drewN | apply below_drew)) (Below.mono hb_ HB.out.size)); clear HB; have HB := N_; clear N_
  clear hb_
  go_wp2_with fail
  refine (laws_toByteS.calls kt1 _ _ l1 l1 _ (by repeat (first | exact Kd.C_below HR1.out HB.out | (with_reducible refine Kd.C_drewN ?_ _) | (with_reducible refine Kd.C_drew ?_))) HC1.out HT1.out).mono ?_
  rintro e_ w_92 ⟨v_93, rfl, ho_, hb_⟩
  obtain ⟨A_96, c_97, e1_⟩ := Kd.R_slice ho_; subst e1_
  have HO_98 := Aside0.mk (Kd.R_mono (ok' := fun k_ => w_84.heap.size ≤ k_ ∧ k_ < w_92.heap.size) (Kd.R_lower (Kd.R_bound ho_) HB.out.size) (fun k_ hk_ => ⟨hk_.2.1, hk_.2.2.1⟩)); clear ho_
  have HS_ : w_84.heap.size ≤ w_92.heap.size := hb_.size
  have HZ_99 := Aside0.mk HS_; clear HS_
  have N_ := Aside0.mk (Kd.R_below (by repeat (first | exact HO_21.out | (with_reducible refine Kd.R_drewN ?_ _) | (with_reducible refine Kd.R_drew ?_))) hb_); clear HO_21; have HO_21 := N_; clear N_
  have N_ := Aside0.mk (Kd.R_below (by repeat (first | exact HO_43.out | (with_reducible refine Kd.R_drewN ?_ _) | (with_reducible refine Kd.R_drew ?_))) hb_); clear HO_43; have HO_43 := N_; clear N_
  have N_ := Aside0.mk (Kd.R_below (by repeat (first | exact HO_90.out | (with_reducible refine Kd.R_drewN ?_ _) | (with_reducible refine Kd.R_drew ?_))) hb_); clear HO_90; have HO_90 := N_; clear N_
  have N_ := Aside0.mk (show Below w.heap.size w w_92 from Below.trans (by repeat (first | exact HB.out | apply pw_below_drewN | apply below_drew)) (Below.mono hb_ HB.out.size)); clear HB; have HB := N_; clear N_
  clear hb_
  go_wp2_with fail
  refine (impl_CodeRead.calls  _ _ l0 _ _ l1 a2 r0 r1 _ (by repeat (first | exact (Kd.R_reads' HO_90.out).2.2 | (with_reducible refine Kd.C_drewN ?_ _) | (with_reducible refine Kd.C_drew ?_))) (Kd.R_reads' HO_90.out).2.1 (by repeat (first | exact (Kd.R_reads' HO_98.out).2.2 | (with_reducible refine Kd.C_drewN ?_ _) | (with_reducible refine Kd.C_drew ?_))) (Kd.R_reads' HO_98.out).2.1 HI.out).mono ?_
  rintro e_ w_100 ⟨v_101, rfl, ho0_, hb_⟩
  obtain ⟨A_102, c_103, e1_⟩ := Kd.R_slice ho0_; subst e1_
  have HO_104 := Aside0.mk (Kd.R_mono (ok' := fun k_ => w_92.heap.size ≤ k_ ∧ k_ < w_100.heap.size) (Kd.R_lower (Kd.R_bound ho0_) HB.out.size) (fun k_ hk_ => ⟨hk_.2.1, hk_.2.2.1⟩)); clear ho0_
  have HS_ : w_92.heap.size ≤ w_100.heap.size := hb_.size
  have HZ_105 := Aside0.mk HS_; clear HS_
  have N_ := Aside0.mk (Kd.R_below (by repeat (first | exact HO_21.out | (with_reducible refine Kd.R_drewN ?_ _) | (with_reducible refine Kd.R_drew ?_))) hb_); clear HO_21; have HO_21 := N_; clear N_
  have N_ := Aside0.mk (Kd.R_below (by repeat (first | exact HO_43.out | (with_reducible refine Kd.R_drewN ?_ _) | (with_reducible refine Kd.R_drew ?_))) hb_); clear HO_43; have HO_43 := N_; clear N_
  have N_ := Aside0.mk (Kd.R_below (by repeat (first | exact HO_90.out | (with_reducible refine Kd.R_drewN ?_ _) | (with_reducible refine Kd.R_drew ?_))) hb_); clear HO_90; have HO_90 := N_; clear N_
  have N_ := Aside0.mk (Kd.R_below (by repeat (first | exact HO_98.out | (with_reducible refine Kd.R_drewN ?_ _) | (with_reducible refine Kd.R_drew ?_))) hb_); clear HO_98; have HO_98 := N_; clear N_
  have N_ := Aside0.mk (show Below w.heap.size w w_100 from Below.trans (by repeat (first | exact HB.out | apply pw_below_drewN | apply below_drew)) (Below.mono hb_ HB.out.size)); clear HB; have HB := N_; clear N_
  clear hb_
  obtain ⟨ke_106, he_107⟩ := (laws_eqIntS.T r0 (by omega)).rounds
  replace he_107 := Aside0.mk he_107
  go_wp2_with fail
  refine (laws_eqIntS.calls ke_106 _ _ r0 _ _ r0 true _ (by repeat (first | exact (Kd.R_reads' HO_104.out).2.2 | (with_reducible refine Kd.C_drewN ?_ _) | (with_reducible refine Kd.C_drew ?_))) (Kd.R_reads' HO_104.out).2.1 (by repeat (first | exact (Kd.R_reads' HO_21.out).2.2 | (with_reducible refine Kd.C_drewN ?_ _) | (with_reducible refine Kd.C_drew ?_))) (Kd.R_reads' HO_21.out).2.1 he_107.out).mono ?_
  rintro e_ w_ ⟨rfl, ⟨nd_, rfl⟩⟩
  obtain ⟨kh_108, hh_109⟩ := (laws_heldIntS.E 1 r0.length (by omega) (by omega) (by omega)).rounds; rw [← hm_81.out] at hh_109; replace hh_109 := Aside0.mk hh_109
  go_wp2_with fail
  refine (laws_heldIntS.R kh_108 _ _ _ _ _ _ _ _ _ (by repeat (first | exact HO_43.out | (with_reducible refine Kd.R_drewN ?_ _) | (with_reducible refine Kd.R_drew ?_))) hh_109.out).mono ?_
  rintro e_ w_ ⟨rfl, ⟨nd_, rfl⟩⟩
  go_wp2
  go_ret
  exact ⟨rfl, by repeat (first | exact HB.out | apply pw_below_drewN | apply below_drew)⟩

end Go.Proofs.Ytcjjmfpkhhdmlaa.G
