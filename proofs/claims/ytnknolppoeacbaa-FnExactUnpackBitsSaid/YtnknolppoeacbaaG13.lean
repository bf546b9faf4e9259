-- Written by gp.py (a program of this session's, over the kit's print). Not trusted: Lean checks it.
import Derived.Test.YtnknolppoeacbaaG0h
import Derived.Test.YtnknolppoeacbaaG35
import Derived.Test.YtnknolppoeacbaaG39
import Derived.Test.YtnknolppoeacbaaG40
import Derived.Test.YtnknolppoeacbaaG54
import Derived.Test.YtnknolppoeacbaaGBits
import Derived.Test.YtnknolppoeacbaaGLib
import Derived.Test.YtnknolppoeacbaaGReader
namespace Go.Proofs.Ytnknolppoeacbaa.G
open Go.RowKit Go.Proofs.YtnknolppoeacbaaW.PrintWords Go.Proofs.YtnknolppoeacbaaW.PrintLast Go.Proofs.YtnknolppoeacbaaW.PrintMore
attribute [local go_sem] max2_int min2_int max_two min_two max_three min_three max_four min_four   -- for this text's walks alone
set_option linter.unusedVariables false
set_option linter.unusedSimpArgs false

/-! ### spec_UnpackBits: function 13 -/
def spec_UnpackBits.f (l0 l1 : List Int) : Option (List Int × Bool) := if isB l0 ∧ l0.length ≤ 1048576 ∧ l1.length ≤ 1048576 then (match unpackS l0 l1 0 with | none => some ([], false) | some r => some (r, true)) else none
def SUnpRel (w : World) (l0 l1 : List Int) (v7 v8 : Value) (w' : World) : Prop :=
  ∃ (i p : Nat) (out : List Int), v8 = .int .i64 i ∧ i ≤ l1.length ∧ Aside0 (IsS52 w w' w.heap.size l0 (p : Int) false) ∧ Aside0 (Below w.heap.size w w') ∧ Aside0 (Kd.R (Kd.int .i64) 3 w' w.heap.size (fun _ => True) v7 out) ∧
    Aside0 ((unpackS l0 (l1.drop i) p).map (out ++ ·) = unpackS l0 l1 0) ∧ Aside0 (out.length = i) ∧ Aside0 (p ≤ 8 * l0.length)
set_option maxRecDepth 100000 in
set_option maxHeartbeats 4000000 in
theorem spec_UnpackBits.calls (A0 : Option Addr) (c0 : Nat) (l0 : List Int) (A1 : Option Addr) (c1 : Nat) (l1 : List Int) (r1 : List Int) (r2 : Bool) (w : World) (hr0 : Kd.C (Kd.int .u8) w A0 l0.length l0) (hc0 : l0.length ≤ c0) (hr1 : Kd.C (Kd.int .i64) w A1 l1.length l1) (hc1 : l1.length ≤ c1) (h : spec_UnpackBits.f l0 l1 = some (r1, r2)) :
    Calls Try.prog 13 #[.slice A0 l0.length c0, .slice A1 l1.length c1] w fun e w' => ∃ v0_ : Value, e = .returned (.tuple #[v0_, .bool r2]) ∧ Kd.R (Kd.int .i64) 3 w' w.heap.size (fun _ => True) v0_ r1 ∧ Below w.heap.size w w' := by
  unfold spec_UnpackBits.f at h
  split at h
  · rename_i hc
    obtain ⟨hbb, hl0, hlen⟩ := hc
    have HBB0 := Aside0.mk (isB_all hbb)
    have HR0 := Aside0.mk hr0
    have HC0 := Aside0.mk hc0
    have HR1 := Aside0.mk hr1
    have HC1 := Aside0.mk hc1
    have HH := Aside0.mk h
    clear hr0 hc0 hr1 hc1 h hbb
    go_enter Try.func13, Try.ntmps13
    go_wp2_with (first | ((with_reducible refine gate_dst (N := 13) rfl ?_); refine Kd.R_lit (w0 := w) (Kd.int .i64) w.heap.size 3 ?hg (N := 13) ?hd (xs := ([] : List Int)) (inner := []) (ok := fun _ => True) (okp := fun _ => True) ?hr ?hp (fun _ hk => hk) trivial ((Below.refl _ _).alloc (Nat.le_refl _) _) (by simp) (by simp) ?_; (case hd => rfl); (case hg => rfl); (case hr => first | (go_simp; done) | (go_simp; rfl)); (case hp => exact (Reps.none _ _)); intro v7 w1 ho hb hg_ hnew_; have HO := Aside0.mk ho; have HB := Aside0.mk hb; have HG := Aside0.mk hg_; clear ho hb hg_ hnew_))
    go_loopw [7, 8] (fun v7 v8 w' => SUnpRel w l0 l1 v7 v8 w') (fun v7 v8 w' => l1.length - (intOf v8).toNat)
    case atStart =>
      refine ⟨0, 0, [], rfl, by omega, ⟨?_⟩, HB, HO, ⟨by simp⟩, ⟨rfl⟩, ⟨by omega⟩⟩
      exact IsS52.grown (IsS52.new w w A0 c0 l0 0 false (Below.refl _ _) HR0.out) HG.out (by simp)
    case round =>
      clear HO HB HG
      obtain ⟨i, p, out, rfl, hi, HBR, HB, HO, HU, HL, HP⟩ := hrel
      by_cases hlt : i < l1.length
      · obtain ⟨ad, e1, hx⟩ := Kd.at_int HR1.out (i : Int) (by omega) (by omega)
        cases e1
        rw [Int.toNat_natCast, rd_nat l1 i hlt] at hx
        replace hx := (HB.out.cell (World.block_lt_of_cell? w _ hx)).trans hx
        obtain ⟨n, hn⟩ : ∃ n : Int, n = l1[i] := ⟨_, rfl⟩
        have hdrop : l1.drop i = n :: l1.drop (i + 1) := by rw [hn, List.drop_eq_getElem_cons hlt]
        rw [← hn] at hx
        have HD := Aside0.mk hdrop
        clear hn hdrop
        have hwi := spec_between n 0 16
        by_cases hr : 0 ≤ n ∧ n ≤ 16
        · obtain ⟨n0, n1⟩ := hr
          rw [show (decide (0 ≤ n) && decide (n ≤ 16)) = true by simp [n0, n1]] at hwi
          have HW := Aside0.mk hwi
          clear hwi
          have hnum := spec_l01Take_num.ev l0 HBB0.out hl0 p n.toNat (by omega) HP.out
          rw [show ((n.toNat : Nat) : Int) = n by omega] at hnum
          by_cases hfit : p + n.toNat ≤ 8 * l0.length
          · obtain ⟨kn, hkn⟩ := (hnum.1 hfit).rounds
            have HN := Aside0.mk hkn
            clear hkn hnum
            go_wp2_with fail
            refine (spec_l01Between.calls n 0 16 true _ HW.out).mono ?_
            rintro e_ w_ ⟨rfl, ⟨nd, rfl⟩⟩
            go_wp2_with fail
            refine (spec_l01Take_num.calls kn w.heap.size l0 (p : Int) false n _ _ _ w _ (IsS52.drewN HBR.out nd) (pw_below_drewN HB.out _) HN.out).mono ?_
            rintro e_ w2 ⟨rfl, hs2, hb2, hk2⟩
            have HB2 := Aside0.mk hb2
            have HK2 := Aside0.mk hk2
            have HS2 := Aside0.mk hs2
            obtain ⟨Ab, cb, hblk, hblk2⟩ := HBR.out
            have ho2 := Aside0.mk (Kd.R_keep (Kd.R_drewN (Kd.R_types HO.out hblk (by decide)) nd) HK2.out (fun k hk => hk.2))
            clear hblk hblk2 HO HB HBR HK2
            obtain ⟨Ac, cc, hblk3, hblk4⟩ := hs2
            have hcell := blk_cell hblk3 2
            simp at hcell
            have hne := Aside0.mk (Kd.R_ne ho2.out hblk3 (by decide))
            clear hblk3 hblk4 hb2 hk2
            obtain ⟨x, hx2⟩ : ∃ x : Int, x = valB l0 p n.toNat := ⟨_, rfl⟩
            rw [← hx2]
            have HX := Aside0.mk hx2
            clear hx2
            have hll := HL.out
            go_wp2_with (first | ((with_reducible refine gate_builtin (b := .append) (xs := #[.tmp 38, .tmp 40]) rfl ?_); at_builtin; refine Kd.R_append (Kd.int .i64) (w0 := w) w.heap.size rfl (.tmp 38) (.tmp 40) 28 3 (.int .i64 0) 8 rfl Try.underlying28 info3 rfl (by decide) (by omega) _ out x [.int .i64 x] (fun _ => True) (fun _ => False) rfl rfl rfl (fun _ hk => hk.elim) (fun _ _ => trivial) (Kd.R_mono ho2.out (fun _ _ => trivial)) HB2.out HB2.out.size (by omega) ?_; intro v8 w3 ho hb hg hat; have HO := Aside0.mk ho; have HB := Aside0.mk hb; have HG := Aside0.mk hg; clear ho hb hg hat))
            go_roundw
            case rel =>
              refine ⟨i + 1, p + n.toNat, out ++ [x], by go_num, by omega, ⟨IsS52.grown HS2.out HG.out hne.out⟩, HB, HO, ⟨?_⟩, ⟨by simp [HL.out]⟩, ⟨hfit⟩⟩
              rw [← HU.out, HD.out]
              simp only [unpackS]
              rw [if_pos ⟨n0, n1⟩, if_pos hfit, Option.map_map, HX.out]
              congr 1
              funext l
              simp
            case measure => simp [intOf]; omega
          · obtain ⟨x, q, hb⟩ := hnum.2 hfit
            obtain ⟨kn, hkn⟩ := hb.rounds
            have HN := Aside0.mk hkn
            clear hkn hnum hb
            go_wp2_with fail
            refine (spec_l01Between.calls n 0 16 true _ HW.out).mono ?_
            rintro e_ w_ ⟨rfl, ⟨nd, rfl⟩⟩
            go_wp2_with fail
            refine (spec_l01Take_num.calls kn w.heap.size l0 (p : Int) false n _ _ _ w _ (IsS52.drewN HBR.out nd) (pw_below_drewN HB.out _) HN.out).mono ?_
            rintro e_ w2 ⟨rfl, hs2, hb2, hk2⟩
            have HB2 := Aside0.mk hb2
            obtain ⟨Ac, cc, hblk3, hblk4⟩ := hs2
            have hcell := blk_cell hblk3 2
            simp at hcell
            clear hblk3 hblk4 hb2 hk2
            go_wp2_with (first | ((with_reducible refine gate_dst (N := 37) rfl ?_); refine Kd.R_lit (w0 := w) (Kd.int .i64) w.heap.size 3 ?hg (N := 37) ?hd (xs := ([] : List Int)) (inner := []) (ok := fun _ => True) (okp := fun _ => True) ?hr ?hp (fun _ hk => hk) trivial HB2.out HB2.out.size (by simp) ?_; (case hd => rfl); (case hg => rfl); (case hr => first | (go_simp; done) | (go_simp; rfl)); (case hp => exact (Reps.none _ _)); intro v7 w1 ho hb hg_ hnew_; have HO1 := Aside0.mk ho; have HB3 := Aside0.mk hb; clear ho hb hg_ hnew_))
            have hres : unpackS l0 l1 0 = none := by rw [← HU.out, HD.out]; simp [unpackS, hfit]
            have := HH.out
            rw [hres] at this
            injection this with this
            injection this with t1 t2
            subst t1; subst t2
            go_ret2
            exact ⟨_, rfl, HO1.out, HB3.out⟩
        · have hr2 : (decide (0 ≤ n) && decide (n ≤ 16)) = false := by
            rw [Bool.eq_false_iff]; intro h; simp at h; exact hr h
          rw [hr2] at hwi
          have HW := Aside0.mk hwi
          clear hwi hr2
          go_wp2_with fail
          refine (spec_l01Between.calls n 0 16 false _ HW.out).mono ?_
          rintro e_ w_ ⟨rfl, ⟨nd, rfl⟩⟩
          go_wp2_with (first | ((with_reducible refine gate_dst (N := 26) rfl ?_); refine Kd.R_lit (w0 := w) (Kd.int .i64) w.heap.size 3 ?hg (N := 26) ?hd (xs := ([] : List Int)) (inner := []) (ok := fun _ => True) (okp := fun _ => True) ?hr ?hp (fun _ hk => hk) trivial (pw_below_drewN HB.out _) HB.out.size (by simp) ?_; (case hd => rfl); (case hg => rfl); (case hr => first | (go_simp; done) | (go_simp; rfl)); (case hp => exact (Reps.none _ _)); intro v7 w1 ho hb hg_ hnew_; have HO1 := Aside0.mk ho; have HB3 := Aside0.mk hb; clear ho hb hg_ hnew_))
          have hres : unpackS l0 l1 0 = none := by rw [← HU.out, HD.out]; simp [unpackS, hr]
          have := HH.out
          rw [hres] at this
          injection this with this
          injection this with t1 t2
          subst t1; subst t2
          go_ret2
          exact ⟨_, rfl, HO1.out, HB3.out⟩
      · obtain rfl : i = l1.length := by omega
        go_wp2
        have hres : unpackS l0 l1 0 = some out := by rw [← HU.out, List.drop_length]; simp [unpackS]
        have := HH.out
        rw [hres] at this
        injection this with this
        injection this with t1 t2
        subst t1; subst t2
        go_ret2
        exact ⟨_, rfl, HO.out, HB.out⟩
  · cases h

end Go.Proofs.Ytnknolppoeacbaa.G
