-- Written by gp.py (a program of this session's, over the kit's print). Not trusted: Lean checks it.
import Derived.Test.YtnknolppoeacbaaG0h
import Derived.Test.YtnknolppoeacbaaG10
import Derived.Test.YtnknolppoeacbaaG12
import Derived.Test.YtnknolppoeacbaaG17
import Derived.Test.YtnknolppoeacbaaG20
import Derived.Test.YtnknolppoeacbaaG21
import Derived.Test.YtnknolppoeacbaaG31
import Derived.Test.YtnknolppoeacbaaG32
import Derived.Test.YtnknolppoeacbaaG33
import Derived.Test.YtnknolppoeacbaaG8
namespace Go.Proofs.Ytnknolppoeacbaa.G
open Go.RowKit Go.Proofs.YtnknolppoeacbaaW.PrintWords Go.Proofs.YtnknolppoeacbaaW.PrintLast Go.Proofs.YtnknolppoeacbaaW.PrintMore
attribute [local go_sem] max2_int min2_int max_two min_two max_three min_three max_four min_four   -- for this text's walks alone
set_option linter.unusedVariables false
set_option linter.unusedSimpArgs false

/-! ### laws_FnExactMapTo: function 7 -/
/- The law FnExactMapTo: for all arguments the program's MapTo answers as the reference's, writes into none of them and keeps nothing of them. No condition. -/
theorem same_MapTo (l0 l1 : List (List Int)) (h0 : l0.length ≤ 1048576) (hx0 : ∀ x ∈ l0, x.length ≤ 1048576) (h1 : l1.length ≤ 1048576) (hx1 : ∀ x ∈ l1, x.length ≤ 1048576) (_ : l0.length ≤ 9223372036854775807 ∧ ∀ x_ ∈ l0, x_.length ≤ 9223372036854775807 ∧ ∀ y_ ∈ x_, (Lit.int .i64 y_).wf = true) (_ : l1.length ≤ 9223372036854775807 ∧ ∀ x_ ∈ l1, x_.length ≤ 9223372036854775807 ∧ ∀ y_ ∈ x_, (Lit.int .i64 y_).wf = true) :
    ∃ r, Ev (fun k => spec_MapTo.f k l0 l1) r ∧ Ev (fun k => impl_MapTo.f k l0 l1) r ∧ r.length ≤ 1048576 :=
  ⟨_, spec_MapTo.ev l0 l1, impl_MapTo.ev l0 l1, by split <;> simp; omega⟩
set_option maxHeartbeats 8000000 in
set_option maxRecDepth 100000 in
theorem laws_FnExactMapTo.law (A0 : Option Addr) (c0 : Nat) (l0 : List (List Int)) (A1 : Option Addr) (c1 : Nat) (l1 : List (List Int)) (w : World) (hr0 : Kd.C (Kd.slice 3 (Kd.int .i64)) w A0 l0.length l0) (hc0 : l0.length ≤ c0) (hr1 : Kd.C (Kd.slice 3 (Kd.int .i64)) w A1 l1.length l1) (hc1 : l1.length ≤ c1) (hw0 : l0.length ≤ 9223372036854775807 ∧ ∀ x_ ∈ l0, x_.length ≤ 9223372036854775807 ∧ ∀ y_ ∈ x_, (Lit.int .i64 y_).wf = true) (hw1 : l1.length ≤ 9223372036854775807 ∧ ∀ x_ ∈ l1, x_.length ≤ 9223372036854775807 ∧ ∀ y_ ∈ x_, (Lit.int .i64 y_).wf = true) :
    Calls Try.prog 7 #[.slice A0 l0.length c0, .slice A1 l1.length c1] w fun e w' => e = .returned (.bool true) ∧ Below w.heap.size w w' := by
  have HR0 := Aside0.mk hr0; have HC0 := Aside0.mk hc0; clear hr0 hc0
  have HR1 := Aside0.mk hr1; have HC1 := Aside0.mk hc1; clear hr1 hc1
  have HW0 := Aside0.mk hw0; clear hw0
  have HW1 := Aside0.mk hw1; clear hw1
  obtain ⟨z0, hz0, hzl0, hzp0⟩ := laws_szIntSS.ev l0 1048576 (by omega) (by omega) HW0.out.1 (fun x_ hx_ => (HW0.out.2 x_ hx_).1)
  obtain ⟨kz0, hkz0⟩ := hz0.rounds; have HZ0 := Aside0.mk hkz0; clear hz0 hkz0
  by_cases g0 : z0 < 0
  · have d1_ : decide (z0 < 0) = true := decide_eq_true g0
    clear g0 hzp0
    go_enter Try.func7, Try.ntmps7
    go_wp2_with fail
    refine (laws_szIntSS.calls kz0 _ _ l0 1048576 z0 _ (by repeat (first | exact HR0.out | (with_reducible refine Kd.C_drewN ?_ _))) HC0.out HZ0.out).mono ?_
    rintro e_ w_ ⟨rfl, ⟨nd_, rfl⟩⟩
    go_wp2
    go_ret
    exact ⟨rfl, by repeat (first | exact Below.refl _ _ | apply pw_below_drewN | apply below_drew)⟩
  have dz0 : decide (z0 < 0) = false := decide_eq_false g0
  obtain ⟨hl0, hx0⟩ := hzp0 (by omega)
  have HX0 := Aside0.mk hx0; clear hzp0 hx0 g0; have z00 : 0 ≤ z0 := (by have := of_decide_eq_false dz0; omega)
  obtain ⟨z1, hz1, hzl1, hzp1⟩ := laws_szIntSS.ev l1 z0 (by omega) (by omega) HW1.out.1 (fun x_ hx_ => (HW1.out.2 x_ hx_).1)
  obtain ⟨kz1, hkz1⟩ := hz1.rounds; have HZ1 := Aside0.mk hkz1; clear hz1 hkz1
  by_cases g1 : z1 < 0
  · have d1_ : decide (z1 < 0) = true := decide_eq_true g1
    clear g1 hzp1
    go_enter Try.func7, Try.ntmps7
    go_wp2_with fail
    refine (laws_szIntSS.calls kz0 _ _ l0 1048576 z0 _ (by repeat (first | exact HR0.out | (with_reducible refine Kd.C_drewN ?_ _))) HC0.out HZ0.out).mono ?_
    rintro e_ w_ ⟨rfl, ⟨nd_, rfl⟩⟩
    go_wp2_with fail
    refine (laws_szIntSS.calls kz1 _ _ l1 z0 z1 _ (by repeat (first | exact HR1.out | (with_reducible refine Kd.C_drewN ?_ _))) HC1.out HZ1.out).mono ?_
    rintro e_ w_ ⟨rfl, ⟨nd_, rfl⟩⟩
    go_wp2
    go_ret
    exact ⟨rfl, by repeat (first | exact Below.refl _ _ | apply pw_below_drewN | apply below_drew)⟩
  have dz1 : decide (z1 < 0) = false := decide_eq_false g1
  obtain ⟨hl1, hx1⟩ := hzp1 (by omega)
  have HX1 := Aside0.mk hx1; clear hzp1 hx1 g1; have z01 : 0 ≤ z1 := (by have := of_decide_eq_false dz1; omega)
  have HT0 := Aside0.mk (laws_toIntSS.val l0 hl0 HX0.out)
  have HT1 := Aside0.mk (laws_toIntSS.val l1 hl1 HX1.out)
  obtain ⟨r0, hsp_, him_, hrl0⟩ := same_MapTo l0 l1 hl0 HX0.out hl1 HX1.out HW0.out HW1.out
  obtain ⟨ks_, hks_⟩ := hsp_.rounds; obtain ⟨ki_, hki_⟩ := him_.rounds; have HF := Aside0.mk hks_; have HI := Aside0.mk hki_; clear hsp_ him_ hks_ hki_
  have HB := Aside0.mk (Below.refl w.heap.size w)
  go_enter Try.func7, Try.ntmps7
  go_wp2_with fail
  refine (laws_szIntSS.calls kz0 _ _ l0 1048576 z0 _ (by repeat (first | exact HR0.out | (with_reducible refine Kd.C_drewN ?_ _))) HC0.out HZ0.out).mono ?_
  rintro e_ w_ ⟨rfl, ⟨nd_, rfl⟩⟩
  go_wp2_with fail
  refine (laws_szIntSS.calls kz1 _ _ l1 z0 z1 _ (by repeat (first | exact HR1.out | (with_reducible refine Kd.C_drewN ?_ _))) HC1.out HZ1.out).mono ?_
  rintro e_ w_ ⟨rfl, ⟨nd_, rfl⟩⟩
  have N_ := Aside0.mk (show Below w.heap.size w _ from (by repeat (first | exact HB.out | apply pw_below_drewN | apply below_drew))); clear N_
  go_wp2_with fail
  refine (laws_toIntSS.calls _ _ l0 l0 _ (by repeat (first | exact Kd.C_below HR0.out HB.out | (with_reducible refine Kd.C_drewN ?_ _) | (with_reducible refine Kd.C_drew ?_))) HC0.out HT0.out).mono ?_
  rintro e_ w_1 ⟨v_2, rfl, ho_, hb_⟩
  obtain ⟨A_5, c_6, e1_⟩ := Kd.S_slice ho_; subst e1_
  have HO_7 := Aside0.mk (Kd.S_mono (ok' := fun k_ => w.heap.size ≤ k_ ∧ k_ < w_1.heap.size) (Kd.S_lower (Kd.S_bound ho_) HB.out.size) (fun k_ hk_ => ⟨hk_.2.1, hk_.2.2.1⟩)); clear ho_
  have HS_ : w.heap.size ≤ w_1.heap.size := hb_.size
  have HZ_8 := Aside0.mk HS_; clear HS_
  have N_ := Aside0.mk (show Below w.heap.size w w_1 from Below.trans (by repeat (first | exact HB.out | apply pw_below_drewN | apply below_drew)) (Below.mono hb_ HB.out.size)); clear HB; have HB := N_; clear N_
  clear hb_
  go_wp2_with fail
  refine (laws_toIntSS.calls _ _ l1 l1 _ (by repeat (first | exact Kd.C_below HR1.out HB.out | (with_reducible refine Kd.C_drewN ?_ _) | (with_reducible refine Kd.C_drew ?_))) HC1.out HT1.out).mono ?_
  rintro e_ w_9 ⟨v_10, rfl, ho_, hb_⟩
  obtain ⟨A_13, c_14, e1_⟩ := Kd.S_slice ho_; subst e1_
  have HO_15 := Aside0.mk (Kd.S_mono (ok' := fun k_ => w_1.heap.size ≤ k_ ∧ k_ < w_9.heap.size) (Kd.S_lower (Kd.S_bound ho_) HB.out.size) (fun k_ hk_ => ⟨hk_.2.1, hk_.2.2.1⟩)); clear ho_
  have HS_ : w_1.heap.size ≤ w_9.heap.size := hb_.size
  have HZ_16 := Aside0.mk HS_; clear HS_
  have N_ := Aside0.mk (Kd.S_below (by repeat (first | exact HO_7.out | (with_reducible refine Kd.S_drewN ?_ _) | (with_reducible refine Kd.S_drew ?_))) hb_); clear HO_7; have HO_7 := N_; clear N_
  have N_ := Aside0.mk (show Below w.heap.size w w_9 from Below.trans (by repeat (first | exact HB.out | apply pw_below_drewN | apply below_drew)) (Below.mono hb_ HB.out.size)); clear HB; have HB := N_; clear N_
  clear hb_
  go_wp2_with fail
  refine (spec_MapTo.calls ks_ _ _ l0 _ _ l1 r0 _ (by repeat (first | exact (Kd.S_reads' HO_7.out).2.2 | (with_reducible refine Kd.C_drewN ?_ _) | (with_reducible refine Kd.C_drew ?_))) (Kd.S_reads' HO_7.out).2.1 (by repeat (first | exact (Kd.S_reads' HO_15.out).2.2 | (with_reducible refine Kd.C_drewN ?_ _) | (with_reducible refine Kd.C_drew ?_))) (Kd.S_reads' HO_15.out).2.1 HF.out).mono ?_
  rintro e_ w_17 ⟨v_18, rfl, ho0_, hb_⟩
  obtain ⟨A_19, c_20, e1_⟩ := Kd.R_slice ho0_; subst e1_
  have HO_21 := Aside0.mk (Kd.R_mono (ok' := fun k_ => w_9.heap.size ≤ k_ ∧ k_ < w_17.heap.size) (Kd.R_lower (Kd.R_bound ho0_) HB.out.size) (fun k_ hk_ => ⟨hk_.2.1, hk_.2.2.1⟩)); clear ho0_
  have HS_ : w_9.heap.size ≤ w_17.heap.size := hb_.size
  have HZ_22 := Aside0.mk HS_; clear HS_
  have N_ := Aside0.mk (Kd.S_below (by repeat (first | exact HO_7.out | (with_reducible refine Kd.S_drewN ?_ _) | (with_reducible refine Kd.S_drew ?_))) hb_); clear HO_7; have HO_7 := N_; clear N_
  have N_ := Aside0.mk (Kd.S_below (by repeat (first | exact HO_15.out | (with_reducible refine Kd.S_drewN ?_ _) | (with_reducible refine Kd.S_drew ?_))) hb_); clear HO_15; have HO_15 := N_; clear N_
  have N_ := Aside0.mk (show Below w.heap.size w w_17 from Below.trans (by repeat (first | exact HB.out | apply pw_below_drewN | apply below_drew)) (Below.mono hb_ HB.out.size)); clear HB; have HB := N_; clear N_
  clear hb_
  go_wp2_with fail
  refine (laws_toIntSS.calls _ _ l0 l0 _ (by repeat (first | exact Kd.C_below HR0.out HB.out | (with_reducible refine Kd.C_drewN ?_ _) | (with_reducible refine Kd.C_drew ?_))) HC0.out HT0.out).mono ?_
  rintro e_ w_23 ⟨v_24, rfl, ho_, hb_⟩
  obtain ⟨A_27, c_28, e1_⟩ := Kd.S_slice ho_; subst e1_
  have HO_29 := Aside0.mk (Kd.S_mono (ok' := fun k_ => w_17.heap.size ≤ k_ ∧ k_ < w_23.heap.size) (Kd.S_lower (Kd.S_bound ho_) HB.out.size) (fun k_ hk_ => ⟨hk_.2.1, hk_.2.2.1⟩)); clear ho_
  have HS_ : w_17.heap.size ≤ w_23.heap.size := hb_.size
  have HZ_30 := Aside0.mk HS_; clear HS_
  have N_ := Aside0.mk (Kd.R_below (by repeat (first | exact HO_21.out | (with_reducible refine Kd.R_drewN ?_ _) | (with_reducible refine Kd.R_drew ?_))) hb_); clear HO_21; have HO_21 := N_; clear N_
  have N_ := Aside0.mk (show Below w.heap.size w w_23 from Below.trans (by repeat (first | exact HB.out | apply pw_below_drewN | apply below_drew)) (Below.mono hb_ HB.out.size)); clear HB; have HB := N_; clear N_
  clear hb_
  go_wp2_with fail
  refine (laws_toIntSS.calls _ _ l1 l1 _ (by repeat (first | exact Kd.C_below HR1.out HB.out | (with_reducible refine Kd.C_drewN ?_ _) | (with_reducible refine Kd.C_drew ?_))) HC1.out HT1.out).mono ?_
  rintro e_ w_31 ⟨v_32, rfl, ho_, hb_⟩
  obtain ⟨A_35, c_36, e1_⟩ := Kd.S_slice ho_; subst e1_
  have HO_37 := Aside0.mk (Kd.S_mono (ok' := fun k_ => w_23.heap.size ≤ k_ ∧ k_ < w_31.heap.size) (Kd.S_lower (Kd.S_bound ho_) HB.out.size) (fun k_ hk_ => ⟨hk_.2.1, hk_.2.2.1⟩)); clear ho_
  have HS_ : w_23.heap.size ≤ w_31.heap.size := hb_.size
  have HZ_38 := Aside0.mk HS_; clear HS_
  have N_ := Aside0.mk (Kd.R_below (by repeat (first | exact HO_21.out | (with_reducible refine Kd.R_drewN ?_ _) | (with_reducible refine Kd.R_drew ?_))) hb_); clear HO_21; have HO_21 := N_; clear N_
  have N_ := Aside0.mk (Kd.S_below (by repeat (first | exact HO_29.out | (with_reducible refine Kd.S_drewN ?_ _) | (with_reducible refine Kd.S_drew ?_))) hb_); clear HO_29; have HO_29 := N_; clear N_
  have N_ := Aside0.mk (show Below w.heap.size w w_31 from Below.trans (by repeat (first | exact HB.out | apply pw_below_drewN | apply below_drew)) (Below.mono hb_ HB.out.size)); clear HB; have HB := N_; clear N_
  clear hb_
  go_wp2_with fail
  refine (impl_MapTo.calls ki_ _ _ l0 _ _ l1 r0 _ (by repeat (first | exact (Kd.S_reads' HO_29.out).2.2 | (with_reducible refine Kd.C_drewN ?_ _) | (with_reducible refine Kd.C_drew ?_))) (Kd.S_reads' HO_29.out).2.1 (by repeat (first | exact (Kd.S_reads' HO_37.out).2.2 | (with_reducible refine Kd.C_drewN ?_ _) | (with_reducible refine Kd.C_drew ?_))) (Kd.S_reads' HO_37.out).2.1 HI.out).mono ?_
  rintro e_ w_39 ⟨v_40, rfl, ho0_, hb_⟩
  obtain ⟨A_41, c_42, e1_⟩ := Kd.R_slice ho0_; subst e1_
  have HO_43 := Aside0.mk (Kd.R_mono (ok' := fun k_ => w_31.heap.size ≤ k_ ∧ k_ < w_39.heap.size) (Kd.R_lower (Kd.R_bound ho0_) HB.out.size) (fun k_ hk_ => ⟨hk_.2.1, hk_.2.2.1⟩)); clear ho0_
  have HS_ : w_31.heap.size ≤ w_39.heap.size := hb_.size
  have HZ_44 := Aside0.mk HS_; clear HS_
  have N_ := Aside0.mk (Kd.R_below (by repeat (first | exact HO_21.out | (with_reducible refine Kd.R_drewN ?_ _) | (with_reducible refine Kd.R_drew ?_))) hb_); clear HO_21; have HO_21 := N_; clear N_
  have N_ := Aside0.mk (Kd.S_below (by repeat (first | exact HO_29.out | (with_reducible refine Kd.S_drewN ?_ _) | (with_reducible refine Kd.S_drew ?_))) hb_); clear HO_29; have HO_29 := N_; clear N_
  have N_ := Aside0.mk (Kd.S_below (by repeat (first | exact HO_37.out | (with_reducible refine Kd.S_drewN ?_ _) | (with_reducible refine Kd.S_drew ?_))) hb_); clear HO_37; have HO_37 := N_; clear N_
  have N_ := Aside0.mk (show Below w.heap.size w w_39 from Below.trans (by repeat (first | exact HB.out | apply pw_below_drewN | apply below_drew)) (Below.mono hb_ HB.out.size)); clear HB; have HB := N_; clear N_
  clear hb_
  obtain ⟨ke_45, he_46⟩ := (laws_eqIntS.T r0 (by omega)).rounds
  replace he_46 := Aside0.mk he_46
  go_wp2_with fail
  refine (laws_eqIntS.calls ke_45 _ _ r0 _ _ r0 true _ (by repeat (first | exact (Kd.R_reads' HO_43.out).2.2 | (with_reducible refine Kd.C_drewN ?_ _) | (with_reducible refine Kd.C_drew ?_))) (Kd.R_reads' HO_43.out).2.1 (by repeat (first | exact (Kd.R_reads' HO_21.out).2.2 | (with_reducible refine Kd.C_drewN ?_ _) | (with_reducible refine Kd.C_drew ?_))) (Kd.R_reads' HO_21.out).2.1 he_46.out).mono ?_
  rintro e_ w_ ⟨rfl, ⟨nd_, rfl⟩⟩
  go_wp2_with fail
  refine (laws_toIntSS.calls _ _ l0 l0 _ (by repeat (first | exact Kd.C_below HR0.out HB.out | (with_reducible refine Kd.C_drewN ?_ _) | (with_reducible refine Kd.C_drew ?_))) HC0.out HT0.out).mono ?_
  rintro e_ w_47 ⟨v_48, rfl, ho_, hb_⟩
  obtain ⟨A_51, c_52, e1_⟩ := Kd.S_slice ho_; subst e1_
  have HO_53 := Aside0.mk (Kd.S_mono (ok' := fun k_ => w_39.heap.size ≤ k_ ∧ k_ < w_47.heap.size) (Kd.S_lower (Kd.S_bound ho_) HB.out.size) (fun k_ hk_ => ⟨hk_.2.1, hk_.2.2.1⟩)); clear ho_
  have HS_ : w_39.heap.size ≤ w_47.heap.size := hb_.size
  have HZ_54 := Aside0.mk HS_; clear HS_
  have N_ := Aside0.mk (Kd.R_below (by repeat (first | exact HO_21.out | (with_reducible refine Kd.R_drewN ?_ _) | (with_reducible refine Kd.R_drew ?_))) hb_); clear HO_21; have HO_21 := N_; clear N_
  have N_ := Aside0.mk (Kd.S_below (by repeat (first | exact HO_29.out | (with_reducible refine Kd.S_drewN ?_ _) | (with_reducible refine Kd.S_drew ?_))) hb_); clear HO_29; have HO_29 := N_; clear N_
  have N_ := Aside0.mk (Kd.S_below (by repeat (first | exact HO_37.out | (with_reducible refine Kd.S_drewN ?_ _) | (with_reducible refine Kd.S_drew ?_))) hb_); clear HO_37; have HO_37 := N_; clear N_
  have N_ := Aside0.mk (Kd.R_below (by repeat (first | exact HO_43.out | (with_reducible refine Kd.R_drewN ?_ _) | (with_reducible refine Kd.R_drew ?_))) hb_); clear HO_43; have HO_43 := N_; clear N_
  have N_ := Aside0.mk (show Below w.heap.size w w_47 from Below.trans (by repeat (first | exact HB.out | apply pw_below_drewN | apply below_drew)) (Below.mono hb_ HB.out.size)); clear HB; have HB := N_; clear N_
  clear hb_
  obtain ⟨ke_55, he_56⟩ := (laws_eqIntSS.T l0 (by omega) HX0.out).rounds
  replace he_56 := Aside0.mk he_56
  go_wp2_with fail
  refine (laws_eqIntSS.calls ke_55 _ _ l0 _ _ l0 true _ (by repeat (first | exact (Kd.S_reads' HO_29.out).2.2 | (with_reducible refine Kd.C_drewN ?_ _) | (with_reducible refine Kd.C_drew ?_))) (Kd.S_reads' HO_29.out).2.1 (by repeat (first | exact (Kd.S_reads' HO_53.out).2.2 | (with_reducible refine Kd.C_drewN ?_ _) | (with_reducible refine Kd.C_drew ?_))) (Kd.S_reads' HO_53.out).2.1 he_56.out).mono ?_
  rintro e_ w_ ⟨rfl, ⟨nd_, rfl⟩⟩
  go_wp2_with fail
  refine (laws_toIntSS.calls _ _ l1 l1 _ (by repeat (first | exact Kd.C_below HR1.out HB.out | (with_reducible refine Kd.C_drewN ?_ _) | (with_reducible refine Kd.C_drew ?_))) HC1.out HT1.out).mono ?_
  rintro e_ w_57 ⟨v_58, rfl, ho_, hb_⟩
  obtain ⟨A_61, c_62, e1_⟩ := Kd.S_slice ho_; subst e1_
  have HO_63 := Aside0.mk (Kd.S_mono (ok' := fun k_ => w_47.heap.size ≤ k_ ∧ k_ < w_57.heap.size) (Kd.S_lower (Kd.S_bound ho_) HB.out.size) (fun k_ hk_ => ⟨hk_.2.1, hk_.2.2.1⟩)); clear ho_
  have HS_ : w_47.heap.size ≤ w_57.heap.size := hb_.size
  have HZ_64 := Aside0.mk HS_; clear HS_
  have N_ := Aside0.mk (Kd.R_below (by repeat (first | exact HO_21.out | (with_reducible refine Kd.R_drewN ?_ _) | (with_reducible refine Kd.R_drew ?_))) hb_); clear HO_21; have HO_21 := N_; clear N_
  have N_ := Aside0.mk (Kd.S_below (by repeat (first | exact HO_29.out | (with_reducible refine Kd.S_drewN ?_ _) | (with_reducible refine Kd.S_drew ?_))) hb_); clear HO_29; have HO_29 := N_; clear N_
  have N_ := Aside0.mk (Kd.S_below (by repeat (first | exact HO_37.out | (with_reducible refine Kd.S_drewN ?_ _) | (with_reducible refine Kd.S_drew ?_))) hb_); clear HO_37; have HO_37 := N_; clear N_
  have N_ := Aside0.mk (Kd.R_below (by repeat (first | exact HO_43.out | (with_reducible refine Kd.R_drewN ?_ _) | (with_reducible refine Kd.R_drew ?_))) hb_); clear HO_43; have HO_43 := N_; clear N_
  have N_ := Aside0.mk (show Below w.heap.size w w_57 from Below.trans (by repeat (first | exact HB.out | apply pw_below_drewN | apply below_drew)) (Below.mono hb_ HB.out.size)); clear HB; have HB := N_; clear N_
  clear hb_
  obtain ⟨ke_65, he_66⟩ := (laws_eqIntSS.T l1 (by omega) HX1.out).rounds
  replace he_66 := Aside0.mk he_66
  go_wp2_with fail
  refine (laws_eqIntSS.calls ke_65 _ _ l1 _ _ l1 true _ (by repeat (first | exact (Kd.S_reads' HO_37.out).2.2 | (with_reducible refine Kd.C_drewN ?_ _) | (with_reducible refine Kd.C_drew ?_))) (Kd.S_reads' HO_37.out).2.1 (by repeat (first | exact (Kd.S_reads' HO_63.out).2.2 | (with_reducible refine Kd.C_drewN ?_ _) | (with_reducible refine Kd.C_drew ?_))) (Kd.S_reads' HO_63.out).2.1 he_66.out).mono ?_
  rintro e_ w_ ⟨rfl, ⟨nd_, rfl⟩⟩
  go_wp2_with fail
  refine (laws_markIntSS.calls _ _ l0 1 w _ (by repeat (first | exact HB.out | apply pw_below_drewN | apply below_drew)) (by repeat (first | exact HO_29.out | (with_reducible refine Kd.S_drewN ?_ _) | (with_reducible refine Kd.S_drew ?_))) (by omega) (by omega) (by omega) HX0.out).mono ?_
  rintro e_ w_67 ⟨⟨rfl, rn_, hn_⟩, hb_, hk_⟩
  have NX_ := Aside0.mk hn_; clear hn_
  have N_ := Aside0.mk (Kd.R_kept (by repeat (first | exact HO_21.out | (with_reducible refine Kd.R_drewN ?_ _) | (with_reducible refine Kd.R_drew ?_))) hk_ (fun k_ hk_ hn_ => by have z1_ := hk_.1; have z2_ := hk_.2; have z3_ := hn_.1; have z4_ := hn_.2; have := HZ_8.out; have := HZ_16.out; have := HZ_22.out; have := HZ_30.out; have := HZ_38.out; have := HZ_44.out; have := HZ_54.out; have := HZ_64.out; omega)); clear HO_21; have HO_21 := N_; clear N_
  have N_ := Aside0.mk (Kd.S_kept (by repeat (first | exact HO_37.out | (with_reducible refine Kd.S_drewN ?_ _) | (with_reducible refine Kd.S_drew ?_))) hk_ (fun k_ hk_ hn_ => by have z1_ := hk_.1; have z2_ := hk_.2; have z3_ := hn_.1; have z4_ := hn_.2; have := HZ_8.out; have := HZ_16.out; have := HZ_22.out; have := HZ_30.out; have := HZ_38.out; have := HZ_44.out; have := HZ_54.out; have := HZ_64.out; omega)); clear HO_37; have HO_37 := N_; clear N_
  have N_ := Aside0.mk (Kd.R_kept (by repeat (first | exact HO_43.out | (with_reducible refine Kd.R_drewN ?_ _) | (with_reducible refine Kd.R_drew ?_))) hk_ (fun k_ hk_ hn_ => by have z1_ := hk_.1; have z2_ := hk_.2; have z3_ := hn_.1; have z4_ := hn_.2; have := HZ_8.out; have := HZ_16.out; have := HZ_22.out; have := HZ_30.out; have := HZ_38.out; have := HZ_44.out; have := HZ_54.out; have := HZ_64.out; omega)); clear HO_43; have HO_43 := N_; clear N_
  clear HO_29; have HO_29 := NX_; clear NX_
  have hz_ : w_57.heap.size ≤ w_67.heap.size := hk_.1; have HZm67_ := Aside0.mk hz_; clear hz_
  clear HB; have HB := Aside0.mk hb_; clear hb_ hk_
  obtain ⟨kk_68, he_⟩ : ∃ q_ : Int, q_ = 1 + (((total l0 : Nat) : Nat) : Int) := ⟨_, rfl⟩; rw [← he_]
  have ht_ := total_le l0 HX0.out
  have kk_68a : 0 ≤ kk_68 := by omega
  have kk_68b : kk_68 ≤ 1099511627777 := by omega
  clear he_ ht_
  go_wp2_with fail
  refine (laws_markIntSS.calls _ _ l1 kk_68 w _ (by repeat (first | exact HB.out | apply pw_below_drewN | apply below_drew)) (by repeat (first | exact HO_37.out | (with_reducible refine Kd.S_drewN ?_ _) | (with_reducible refine Kd.S_drew ?_))) (by omega) (by omega) (by omega) HX1.out).mono ?_
  rintro e_ w_69 ⟨⟨rfl, rn_, hn_⟩, hb_, hk_⟩
  have NX_ := Aside0.mk hn_; clear hn_
  have N_ := Aside0.mk (Kd.R_kept (by repeat (first | exact HO_21.out | (with_reducible refine Kd.R_drewN ?_ _) | (with_reducible refine Kd.R_drew ?_))) hk_ (fun k_ hk_ hn_ => by have z1_ := hk_.1; have z2_ := hk_.2; have z3_ := hn_.1; have z4_ := hn_.2; have := HZ_8.out; have := HZ_16.out; have := HZ_22.out; have := HZ_30.out; have := HZ_38.out; have := HZ_44.out; have := HZ_54.out; have := HZ_64.out; have := HZm67_.out; omega)); clear HO_21; have HO_21 := N_; clear N_
  have N_ := Aside0.mk (Kd.S_kept (by repeat (first | exact HO_29.out | (with_reducible refine Kd.S_drewN ?_ _) | (with_reducible refine Kd.S_drew ?_))) hk_ (fun k_ hk_ hn_ => by have z1_ := hk_.1; have z2_ := hk_.2; have z3_ := hn_.1; have z4_ := hn_.2; have := HZ_8.out; have := HZ_16.out; have := HZ_22.out; have := HZ_30.out; have := HZ_38.out; have := HZ_44.out; have := HZ_54.out; have := HZ_64.out; have := HZm67_.out; omega)); clear HO_29; have HO_29 := N_; clear N_
  have N_ := Aside0.mk (Kd.R_kept (by repeat (first | exact HO_43.out | (with_reducible refine Kd.R_drewN ?_ _) | (with_reducible refine Kd.R_drew ?_))) hk_ (fun k_ hk_ hn_ => by have z1_ := hk_.1; have z2_ := hk_.2; have z3_ := hn_.1; have z4_ := hn_.2; have := HZ_8.out; have := HZ_16.out; have := HZ_22.out; have := HZ_30.out; have := HZ_38.out; have := HZ_44.out; have := HZ_54.out; have := HZ_64.out; have := HZm67_.out; omega)); clear HO_43; have HO_43 := N_; clear N_
  clear HO_37; have HO_37 := NX_; clear NX_
  have hz_ : w_67.heap.size ≤ w_69.heap.size := hk_.1; have HZm69_ := Aside0.mk hz_; clear hz_
  clear HB; have HB := Aside0.mk hb_; clear hb_ hk_
  obtain ⟨kk_70, he_⟩ : ∃ q_ : Int, q_ = kk_68 + (((total l1 : Nat) : Nat) : Int) := ⟨_, rfl⟩; rw [← he_]
  have ht_ := total_le l1 HX1.out
  have kk_70a : 0 ≤ kk_70 := by omega
  have kk_70b : kk_70 ≤ 2199023255553 := by omega
  clear he_ ht_
  have dk_ : decide (kk_70 < 0) = false := decide_eq_false (by omega)
  obtain ⟨ke_71, he_72⟩ := (laws_eqIntS.T r0 (by omega)).rounds
  replace he_72 := Aside0.mk he_72
  go_wp2_with fail
  refine (laws_eqIntS.calls ke_71 _ _ r0 _ _ r0 true _ (by repeat (first | exact (Kd.R_reads' HO_43.out).2.2 | (with_reducible refine Kd.C_drewN ?_ _) | (with_reducible refine Kd.C_drew ?_))) (Kd.R_reads' HO_43.out).2.1 (by repeat (first | exact (Kd.R_reads' HO_21.out).2.2 | (with_reducible refine Kd.C_drewN ?_ _) | (with_reducible refine Kd.C_drew ?_))) (Kd.R_reads' HO_21.out).2.1 he_72.out).mono ?_
  rintro e_ w_ ⟨rfl, ⟨nd_, rfl⟩⟩
  obtain ⟨km_74, hm_75⟩ := (laws_markIntS.E r0 1 (by omega) (by omega) (by omega)).rounds; replace hm_75 := Aside0.mk hm_75
  go_wp2_with fail
  refine (laws_markIntS.calls km_74 (fun k_ => w_31.heap.size ≤ k_ ∧ k_ < w_39.heap.size) _ r0 1 _ _ w _ (by repeat (first | exact HB.out | apply pw_below_drewN | apply below_drew)) (by repeat (first | exact HO_43.out | (with_reducible refine Kd.R_drewN ?_ _) | (with_reducible refine Kd.R_drew ?_))) hm_75.out).mono ?_
  rintro e_ w_73 ⟨rfl, hn_, hb_, hk_⟩
  have NX_ := Aside0.mk (Kd.R_reok rfl hn_ (fun k_ hk_ => HO_43.out.1 k_ hk_)); clear hn_
  have N_ := Aside0.mk (Kd.R_kept (by repeat (first | exact HO_21.out | (with_reducible refine Kd.R_drewN ?_ _) | (with_reducible refine Kd.R_drew ?_))) hk_ (fun k_ hk_ hn_ => by have z1_ := hk_.1; have z2_ := hk_.2; have z3_ := hn_.1; have z4_ := hn_.2; have := HZ_8.out; have := HZ_16.out; have := HZ_22.out; have := HZ_30.out; have := HZ_38.out; have := HZ_44.out; have := HZ_54.out; have := HZ_64.out; have := HZm67_.out; have := HZm69_.out; omega)); clear HO_21; have HO_21 := N_; clear N_
  have N_ := Aside0.mk (Kd.S_kept (by repeat (first | exact HO_29.out | (with_reducible refine Kd.S_drewN ?_ _) | (with_reducible refine Kd.S_drew ?_))) hk_ (fun k_ hk_ hn_ => by have z1_ := hk_.1; have z2_ := hk_.2; have z3_ := hn_.1; have z4_ := hn_.2; have := HZ_8.out; have := HZ_16.out; have := HZ_22.out; have := HZ_30.out; have := HZ_38.out; have := HZ_44.out; have := HZ_54.out; have := HZ_64.out; have := HZm67_.out; have := HZm69_.out; omega)); clear HO_29; have HO_29 := N_; clear N_
  have N_ := Aside0.mk (Kd.S_kept (by repeat (first | exact HO_37.out | (with_reducible refine Kd.S_drewN ?_ _) | (with_reducible refine Kd.S_drew ?_))) hk_ (fun k_ hk_ hn_ => by have z1_ := hk_.1; have z2_ := hk_.2; have z3_ := hn_.1; have z4_ := hn_.2; have := HZ_8.out; have := HZ_16.out; have := HZ_22.out; have := HZ_30.out; have := HZ_38.out; have := HZ_44.out; have := HZ_54.out; have := HZ_64.out; have := HZm67_.out; have := HZm69_.out; omega)); clear HO_37; have HO_37 := N_; clear N_
  clear HO_43; have HO_43 := NX_; clear NX_
  have hz_ : w_69.heap.size ≤ w_73.heap.size := hk_.1; have HZm75_ := Aside0.mk hz_; clear hz_
  clear HB; have HB := Aside0.mk hb_; clear hb_ hk_
  obtain ⟨m_76, he_⟩ : ∃ q_ : Int, q_ = 1 + ((r0.length : Nat) : Int) := ⟨_, rfl⟩; rw [← he_]; have hm_77 := Aside0.mk he_; have m_76a : 0 ≤ m_76 := (by omega); have m_76b : m_76 ≤ 4398046511104 := (by omega); clear he_
  have dm_76 : decide (m_76 < 0) = false := decide_eq_false (by omega)
  obtain ⟨kh_78, hh_79⟩ := (laws_heldIntS.E 1 r0.length (by omega) (by omega) (by omega)).rounds; rw [← hm_77.out] at hh_79; replace hh_79 := Aside0.mk hh_79
  go_wp2_with fail
  refine (laws_heldIntS.R kh_78 _ _ _ _ _ _ _ _ _ (by repeat (first | exact HO_43.out | (with_reducible refine Kd.R_drewN ?_ _) | (with_reducible refine Kd.R_drew ?_))) hh_79.out).mono ?_
  rintro e_ w_ ⟨rfl, ⟨nd_, rfl⟩⟩
  go_wp2_with fail
  refine (laws_toIntSS.calls _ _ l0 l0 _ (by repeat (first | exact Kd.C_below HR0.out HB.out | (with_reducible refine Kd.C_drewN ?_ _) | (with_reducible refine Kd.C_drew ?_))) HC0.out HT0.out).mono ?_
  rintro e_ w_80 ⟨v_81, rfl, ho_, hb_⟩
  obtain ⟨A_84, c_85, e1_⟩ := Kd.S_slice ho_; subst e1_
  have HO_86 := Aside0.mk (Kd.S_mono (ok' := fun k_ => w_73.heap.size ≤ k_ ∧ k_ < w_80.heap.size) (Kd.S_lower (Kd.S_bound ho_) HB.out.size) (fun k_ hk_ => ⟨hk_.2.1, hk_.2.2.1⟩)); clear ho_
  have HS_ : w_73.heap.size ≤ w_80.heap.size := hb_.size
  have HZ_87 := Aside0.mk HS_; clear HS_
  have N_ := Aside0.mk (Kd.R_below (by repeat (first | exact HO_21.out | (with_reducible refine Kd.R_drewN ?_ _) | (with_reducible refine Kd.R_drew ?_))) hb_); clear HO_21; have HO_21 := N_; clear N_
  have N_ := Aside0.mk (Kd.R_below (by repeat (first | exact HO_43.out | (with_reducible refine Kd.R_drewN ?_ _) | (with_reducible refine Kd.R_drew ?_))) hb_); clear HO_43; have HO_43 := N_; clear N_
  have N_ := Aside0.mk (show Below w.heap.size w w_80 from Below.trans (by repeat (first | exact HB.out | apply pw_below_drewN | apply below_drew)) (Below.mono hb_ HB.out.size)); clear HB; have HB := N_; clear N_
  clear hb_
  go_wp2_with fail
  refine (laws_toIntSS.calls _ _ l1 l1 _ (by repeat (first | exact Kd.C_below HR1.out HB.out | (with_reducible refine Kd.C_drewN ?_ _) | (with_reducible refine Kd.C_drew ?_))) HC1.out HT1.out).mono ?_
  rintro e_ w_88 ⟨v_89, rfl, ho_, hb_⟩
  obtain ⟨A_92, c_93, e1_⟩ := Kd.S_slice ho_; subst e1_
  have HO_94 := Aside0.mk (Kd.S_mono (ok' := fun k_ => w_80.heap.size ≤ k_ ∧ k_ < w_88.heap.size) (Kd.S_lower (Kd.S_bound ho_) HB.out.size) (fun k_ hk_ => ⟨hk_.2.1, hk_.2.2.1⟩)); clear ho_
  have HS_ : w_80.heap.size ≤ w_88.heap.size := hb_.size
  have HZ_95 := Aside0.mk HS_; clear HS_
  have N_ := Aside0.mk (Kd.R_below (by repeat (first | exact HO_21.out | (with_reducible refine Kd.R_drewN ?_ _) | (with_reducible refine Kd.R_drew ?_))) hb_); clear HO_21; have HO_21 := N_; clear N_
  have N_ := Aside0.mk (Kd.R_below (by repeat (first | exact HO_43.out | (with_reducible refine Kd.R_drewN ?_ _) | (with_reducible refine Kd.R_drew ?_))) hb_); clear HO_43; have HO_43 := N_; clear N_
  have N_ := Aside0.mk (Kd.S_below (by repeat (first | exact HO_86.out | (with_reducible refine Kd.S_drewN ?_ _) | (with_reducible refine Kd.S_drew ?_))) hb_); clear HO_86; have HO_86 := N_; clear N_
  have N_ := Aside0.mk (show Below w.heap.size w w_88 from Below.trans (by repeat (first | exact HB.out | apply pw_below_drewN | apply below_drew)) (Below.mono hb_ HB.out.size)); clear HB; have HB := N_; clear N_
  clear hb_
  go_wp2_with fail
  refine (impl_MapTo.calls ki_ _ _ l0 _ _ l1 r0 _ (by repeat (first | exact (Kd.S_reads' HO_86.out).2.2 | (with_reducible refine Kd.C_drewN ?_ _) | (with_reducible refine Kd.C_drew ?_))) (Kd.S_reads' HO_86.out).2.1 (by repeat (first | exact (Kd.S_reads' HO_94.out).2.2 | (with_reducible refine Kd.C_drewN ?_ _) | (with_reducible refine Kd.C_drew ?_))) (Kd.S_reads' HO_94.out).2.1 HI.out).mono ?_
  rintro e_ w_96 ⟨v_97, rfl, ho0_, hb_⟩
  obtain ⟨A_98, c_99, e1_⟩ := Kd.R_slice ho0_; subst e1_
  have HO_100 := Aside0.mk (Kd.R_mono (ok' := fun k_ => w_88.heap.size ≤ k_ ∧ k_ < w_96.heap.size) (Kd.R_lower (Kd.R_bound ho0_) HB.out.size) (fun k_ hk_ => ⟨hk_.2.1, hk_.2.2.1⟩)); clear ho0_
  have HS_ : w_88.heap.size ≤ w_96.heap.size := hb_.size
  have HZ_101 := Aside0.mk HS_; clear HS_
  have N_ := Aside0.mk (Kd.R_below (by repeat (first | exact HO_21.out | (with_reducible refine Kd.R_drewN ?_ _) | (with_reducible refine Kd.R_drew ?_))) hb_); clear HO_21; have HO_21 := N_; clear N_
  have N_ := Aside0.mk (Kd.R_below (by repeat (first | exact HO_43.out | (with_reducible refine Kd.R_drewN ?_ _) | (with_reducible refine Kd.R_drew ?_))) hb_); clear HO_43; have HO_43 := N_; clear N_
  have N_ := Aside0.mk (Kd.S_below (by repeat (first | exact HO_86.out | (with_reducible refine Kd.S_drewN ?_ _) | (with_reducible refine Kd.S_drew ?_))) hb_); clear HO_86; have HO_86 := N_; clear N_
  have N_ := Aside0.mk (Kd.S_below (by repeat (first | exact HO_94.out | (with_reducible refine Kd.S_drewN ?_ _) | (with_reducible refine Kd.S_drew ?_))) hb_); clear HO_94; have HO_94 := N_; clear N_
  have N_ := Aside0.mk (show Below w.heap.size w w_96 from Below.trans (by repeat (first | exact HB.out | apply pw_below_drewN | apply below_drew)) (Below.mono hb_ HB.out.size)); clear HB; have HB := N_; clear N_
  clear hb_
  obtain ⟨ke_102, he_103⟩ := (laws_eqIntS.T r0 (by omega)).rounds
  replace he_103 := Aside0.mk he_103
  go_wp2_with fail
  refine (laws_eqIntS.calls ke_102 _ _ r0 _ _ r0 true _ (by repeat (first | exact (Kd.R_reads' HO_100.out).2.2 | (with_reducible refine Kd.C_drewN ?_ _) | (with_reducible refine Kd.C_drew ?_))) (Kd.R_reads' HO_100.out).2.1 (by repeat (first | exact (Kd.R_reads' HO_21.out).2.2 | (with_reducible refine Kd.C_drewN ?_ _) | (with_reducible refine Kd.C_drew ?_))) (Kd.R_reads' HO_21.out).2.1 he_103.out).mono ?_
  rintro e_ w_ ⟨rfl, ⟨nd_, rfl⟩⟩
  obtain ⟨kh_104, hh_105⟩ := (laws_heldIntS.E 1 r0.length (by omega) (by omega) (by omega)).rounds; rw [← hm_77.out] at hh_105; replace hh_105 := Aside0.mk hh_105
  go_wp2_with fail
  refine (laws_heldIntS.R kh_104 _ _ _ _ _ _ _ _ _ (by repeat (first | exact HO_43.out | (with_reducible refine Kd.R_drewN ?_ _) | (with_reducible refine Kd.R_drew ?_))) hh_105.out).mono ?_
  rintro e_ w_ ⟨rfl, ⟨nd_, rfl⟩⟩
  go_wp2
  go_ret
  exact ⟨rfl, by repeat (first | exact HB.out | apply pw_below_drewN | apply below_drew)⟩

end Go.Proofs.Ytnknolppoeacbaa.G
