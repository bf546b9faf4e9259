-- Written by gp.py (a program of this session's, over the kit's print). Not trusted: Lean checks it.
import Derived.Test.YtnknolppoeacbaaG0h
import Derived.Test.YtnknolppoeacbaaG41
import Derived.Test.YtnknolppoeacbaaGLib
import Derived.Test.YtnknolppoeacbaaGReader
namespace Go.Proofs.Ytnknolppoeacbaa.G
open Go.RowKit Go.Proofs.YtnknolppoeacbaaW.PrintWords Go.Proofs.YtnknolppoeacbaaW.PrintLast Go.Proofs.YtnknolppoeacbaaW.PrintMore
attribute [local go_sem] max2_int min2_int max_two min_two max_three min_three max_four min_four   -- for this text's walks alone
set_option linter.unusedVariables false
set_option linter.unusedSimpArgs false

/-! ### impl_UnpackBits: function 16 -/
def impl_UnpackBits.f (l0 l1 : List Int) : Option (List Int × Bool) := if isB l0 ∧ l1.length ≤ 1048576 then (match unpackI l1 l0 0 0 with | none => some ([], false) | some r => some (r, true)) else none
def UnpRel (w : World) (l0 l1 : List Int) (v7 v18 : Value) (w' : World) : Prop :=
  ∃ (i : Nat) (b : List Int) (q m : Int) (out : List Int), v18 = .int .i64 i ∧ i ≤ l1.length ∧ Aside0 (BR w w' w.heap.size b q m) ∧ Aside0 (Below w.heap.size w w') ∧ Aside0 (∀ x ∈ b, 0 ≤ x ∧ x ≤ 255) ∧ Aside0 (Kd.R (Kd.int .i64) 3 w' w.heap.size (fun _ => True) v7 out) ∧
    Aside0 ((unpackI (l1.drop i) b q m).map (out ++ ·) = unpackI l1 l0 0 0) ∧ Aside0 (out.length = i) ∧ Aside0 (q < 2 ^ m.toNat) ∧ 0 ≤ q ∧ 0 ≤ m ∧ m ≤ 23
set_option maxRecDepth 100000 in
set_option maxHeartbeats 4000000 in
theorem impl_UnpackBits.calls (A0 : Option Addr) (c0 : Nat) (l0 : List Int) (A1 : Option Addr) (c1 : Nat) (l1 : List Int) (r1 : List Int) (r2 : Bool) (w : World) (hr0 : Kd.C (Kd.int .u8) w A0 l0.length l0) (hc0 : l0.length ≤ c0) (hr1 : Kd.C (Kd.int .i64) w A1 l1.length l1) (hc1 : l1.length ≤ c1) (h : impl_UnpackBits.f l0 l1 = some (r1, r2)) :
    Calls Try.prog 16 #[.slice A0 l0.length c0, .slice A1 l1.length c1] w fun e w' => ∃ v0_ : Value, e = .returned (.tuple #[v0_, .bool r2]) ∧ Kd.R (Kd.int .i64) 3 w' w.heap.size (fun _ => True) v0_ r1 ∧ Below w.heap.size w w' := by
  unfold impl_UnpackBits.f at h
  split at h
  · rename_i hc
    obtain ⟨hbb, hlen⟩ := hc
    have HBB0 := Aside0.mk (isB_all hbb)
    have HR0 := Aside0.mk hr0
    have HC0 := Aside0.mk hc0
    have HR1 := Aside0.mk hr1
    have HC1 := Aside0.mk hc1
    have HH := Aside0.mk h
    clear hr0 hc0 hr1 hc1 h hbb
    go_enter Try.func16, Try.ntmps16
    go_wp2_with (first | ((with_reducible refine gate_dst (N := 15) rfl ?_); refine Kd.R_lit (w0 := w) (Kd.int .i64) w.heap.size 3 ?hg (N := 15) ?hd (xs := ([] : List Int)) (inner := []) (ok := fun _ => True) (okp := fun _ => True) ?hr ?hp (fun _ hk => hk) trivial ((Below.refl _ _).alloc (Nat.le_refl _) _) (by simp) (by simp) ?_; (case hd => rfl); (case hg => rfl); (case hr => first | (go_simp; done) | (go_simp; rfl)); (case hp => exact (Reps.none _ _)); intro v7 w1 ho hb hg_ hnew_; have HO := Aside0.mk ho; have HB := Aside0.mk hb; have HG := Aside0.mk hg_; clear ho hb hg_ hnew_))
    go_loopw [7, 18] (fun v7 v18 w' => UnpRel w l0 l1 v7 v18 w') (fun v7 v18 w' => l1.length - (intOf v18).toNat)
    case atStart =>
      refine ⟨0, l0, 0, 0, [], rfl, by omega, ⟨?_⟩, HB, HBB0, HO, ⟨by simp⟩, ⟨rfl⟩, ⟨by decide⟩, by omega, by omega, by omega⟩
      refine BR.grown (W := w.alloc _) ⟨A0, c0, ?_, Nat.le_refl _, HR0.out, HC0.out⟩ HG.out (by simp)
      simpa using heap_alloc_new w _
    case round =>
      clear HO HB HG
      obtain ⟨i, b, q, m, out, rfl, hi, HBR, HB, HBB, HO, HU, HL, HQ, p0, p1, p2⟩ := hrel
      by_cases hlt : i < l1.length
      · obtain ⟨ad, e1, hx⟩ := Kd.at_int HR1.out (i : Int) (by omega) (by omega)
        cases e1
        rw [Int.toNat_natCast, rd_nat l1 i hlt] at hx
        replace hx := (HB.out.cell (World.block_lt_of_cell? w _ hx)).trans hx
        obtain ⟨n, hn⟩ : ∃ n : Int, n = l1[i] := ⟨_, rfl⟩
        have hdrop : l1.drop i = n :: l1.drop (i + 1) := by rw [hn, List.drop_eq_getElem_cons hlt]
        rw [← hn] at hx
        have HD := Aside0.mk hdrop
        clear hn hdrop
        have hwi := impl_within.val n 0 16
        by_cases hr : 0 ≤ n ∧ n ≤ 16
        · obtain ⟨n0, n1⟩ := hr
          rw [show (decide (0 ≤ n) && decide (n ≤ 16)) = true by simp [n0, n1]] at hwi
          have HW := Aside0.mk hwi
          clear hwi
          cases hf : fillM n b q m with
          | none =>
            have HF := Aside0.mk hf
            clear hf
            go_wp2_with fail
            refine (impl_within.calls n 0 16 true _ HW.out).mono ?_
            rintro e_ w_ ⟨rfl, ⟨nd, rfl⟩⟩
            go_wp2_with fail
            refine (take_calls w _ w.heap.size b q m n none (pw_below_drewN HB.out _) (HBR.out.drewN _) p0 HQ.out p1 p2 n0 n1 HBB.out HF.out).mono ?_
            rintro e_ w2 ⟨hb2, hk2, rfl⟩
            have HB2 := Aside0.mk hb2
            clear hb2 hk2
            go_wp2
            have hres : unpackI l1 l0 0 0 = none := by rw [← HU.out, HD.out]; simp [unpackI, n0, n1, HF.out]
            have := HH.out
            rw [hres] at this
            injection this with this
            injection this with t1 t2
            subst t1; subst t2
            go_ret2
            exact ⟨_, rfl, Kd.R_nil _ _ _ _ _, HB2.out⟩
          | some z =>
            obtain ⟨b2, q2, m2⟩ := z
            have HF := Aside0.mk hf
            clear hf
            go_wp2_with fail
            refine (impl_within.calls n 0 16 true _ HW.out).mono ?_
            rintro e_ w_ ⟨rfl, ⟨nd, rfl⟩⟩
            go_wp2_with fail
            refine (take_calls w _ w.heap.size b q m n (some (b2, q2, m2)) (pw_below_drewN HB.out _) (HBR.out.drewN _) p0 HQ.out p1 p2 n0 n1 HBB.out HF.out).mono ?_
            rintro e_ w2 ⟨hb2, hk2, rfl, hbr2, hbb2, hnm, hm2⟩
            have HB2 := Aside0.mk hb2
            have HK2 := Aside0.mk hk2
            have HBR2 := Aside0.mk hbr2
            have HBB2 := Aside0.mk hbb2
            obtain ⟨Ab, cb, hblk, hblk2⟩ := HBR.out
            have ho2 := Aside0.mk (Kd.R_keep (Kd.R_drewN (Kd.R_types HO.out hblk (by decide)) nd) HK2.out (fun k hk => hk.2))
            clear hb2 hk2 hbr2 hbb2 hblk hblk2 HO HB HBR HK2
            obtain ⟨x, hx2⟩ : ∃ x : Int, x = q2 / 2 ^ (m2 - n).toNat := ⟨_, rfl⟩
            rw [← hx2]
            have HX := Aside0.mk hx2
            clear hx2
            have hll := HL.out
            go_wp2_with (first | ((with_reducible refine gate_builtin (b := .append) (xs := #[.tmp 33, .tmp 35]) rfl ?_); at_builtin; refine Kd.R_append (Kd.int .i64) (w0 := w) w.heap.size rfl (.tmp 33) (.tmp 35) 28 3 (.int .i64 0) 8 rfl Try.underlying28 info3 rfl (by decide) (by omega) _ out x [.int .i64 x] (fun _ => True) (fun _ => False) rfl rfl rfl (fun _ hk => hk.elim) (fun _ _ => trivial) (Kd.R_mono ho2.out (fun _ _ => trivial)) HB2.out HB2.out.size (by omega) ?_; intro v8 w3 ho hb hg hat; have HO := Aside0.mk ho; have HB := Aside0.mk hb; have HG := Aside0.mk hg; clear ho hb hg hat))
            go_roundw
            case rel =>
              obtain ⟨Ac, cc, hblk3, hblk4⟩ := HBR2.out
              refine ⟨i + 1, b2, q2 % 2 ^ (m2 - n).toNat, m2 - n, out ++ [x], by go_num, by omega, ⟨?_⟩, HB, HBB2, HO, ⟨?_⟩, ⟨by simp [HL.out]⟩, ⟨Int.emod_lt_of_pos _ (by have := pow_one (m2 - n).toNat; omega)⟩, Int.emod_nonneg _ (by have := pow_one (m2 - n).toNat; omega), by omega, by omega⟩
              · exact BR.grown HBR2.out HG.out (Kd.R_ne ho2.out hblk3 (by decide))
              · rw [← HU.out, HD.out]
                simp only [unpackI]
                rw [if_pos ⟨n0, n1⟩, HF.out, Option.map_map, HX.out]
                congr 1
                funext l
                simp
            case measure => simp [intOf]; omega
        · have hr2 : (decide (0 ≤ n) && decide (n ≤ 16)) = false := by
            rw [Bool.eq_false_iff]; intro h; simp at h; exact hr h
          rw [hr2] at hwi
          have HW := Aside0.mk hwi
          clear hwi hr2
          go_wp2_with fail
          refine (impl_within.calls n 0 16 false _ HW.out).mono ?_
          rintro e_ w_ ⟨rfl, ⟨nd, rfl⟩⟩
          go_wp2
          have hres : unpackI l1 l0 0 0 = none := by rw [← HU.out, HD.out]; simp [unpackI, hr]
          have := HH.out
          rw [hres] at this
          injection this with this
          injection this with t1 t2
          subst t1; subst t2
          go_ret2
          exact ⟨_, rfl, Kd.R_nil _ _ _ _ _, pw_below_drewN HB.out _⟩
      · obtain rfl : i = l1.length := by omega
        go_wp2
        have hres : unpackI l1 l0 0 0 = some out := by rw [← HU.out, List.drop_length]; simp [unpackI]
        have := HH.out
        rw [hres] at this
        injection this with this
        injection this with t1 t2
        subst t1; subst t2
        go_ret2
        exact ⟨_, rfl, HO.out, HB.out⟩
  · cases h

end Go.Proofs.Ytnknolppoeacbaa.G
