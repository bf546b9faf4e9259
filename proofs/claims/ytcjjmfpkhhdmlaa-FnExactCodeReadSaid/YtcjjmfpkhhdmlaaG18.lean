-- Written by gp.py (a program of this session's, over the kit's print). Not trusted: Lean checks it.
import Derived.Test.YtcjjmfpkhhdmlaaG0h
import Derived.Test.YtcjjmfpkhhdmlaaG80
import Derived.Test.YtcjjmfpkhhdmlaaG81
import Derived.Test.YtcjjmfpkhhdmlaaGCodes
import Derived.Test.YtcjjmfpkhhdmlaaGDecoder
import Derived.Test.YtcjjmfpkhhdmlaaGReader
import Derived.BigRegion
namespace Go.Proofs.Ytcjjmfpkhhdmlaa.G
open Go.RowKit Go.Proofs.YtcjjmfpkhhdmlaaW.PrintWords Go.Proofs.YtcjjmfpkhhdmlaaW.PrintLast Go.Proofs.YtcjjmfpkhhdmlaaW.PrintMore
attribute [local go_sem] max2_int min2_int max_two min_two max_three min_three max_four min_four   -- for this text's walks alone
set_option linter.unusedVariables false
set_option linter.unusedSimpArgs false

/-! ### impl_CodeRead: function 18 -/
--import Derived.BigRegion
def impl_CodeRead.f (l0 l1 : List Int) (a2 : Int) : Option (List Int × Bool) := if isB l1 ∧ l1.length ≤ 1048576 ∧ l0.length ≤ 1048576 then some (codeReadM l0 l1 a2) else none
def CrdRel (w : World) (B g : Nat) (cs : List S124) (b : List Int) (N : Nat) (v10 v28 : Value) (w' : World) : Prop :=
  ∃ (i p : Nat) (out : List Int), v28 = .int .i64 i ∧ i ≤ N ∧ Aside0 (RdK w w' g b p) ∧ Aside0 (DecK w' B cs cs.length) ∧ Aside0 (Below w.heap.size w w') ∧ Aside0 (Kd.R (Kd.int .i64) 3 w' w.heap.size (fun _ => True) v10 out) ∧ Aside0 ((readM cs b (N - i) p).map (out ++ ·) = readM cs b N 0) ∧ Aside0 (out.length = i)
set_option maxRecDepth 100000 in
set_option maxHeartbeats 4000000 in
theorem codeRead_calls (A0 : Option Addr) (c0 : Nat) (l0 : List Int) (A1 : Option Addr) (c1 : Nat) (l1 : List Int) (a2 : Int) (w : World) (hr0 : Kd.C (Kd.int .i64) w A0 l0.length l0) (hc0 : l0.length ≤ c0) (hr1 : Kd.C (Kd.int .u8) w A1 l1.length l1) (hc1 : l1.length ≤ c1) (hb : isB l1 = true) (hl1 : l1.length ≤ 1048576) (hl0 : l0.length ≤ 1048576) :
    Calls Try.prog 18 #[.slice A0 l0.length c0, .slice A1 l1.length c1, .int .i64 a2] w fun e w' => ∃ v0_ : Value, e = .returned (.tuple #[v0_, .bool (codeReadM l0 l1 a2).2]) ∧ Kd.R (Kd.int .i64) 3 w' w.heap.size (fun _ => True) v0_ (codeReadM l0 l1 a2).1 ∧ Below w.heap.size w w' := by
  obtain ⟨cr, hcr⟩ : ∃ cr, cr = codeReadM l0 l1 a2 := ⟨_, rfl⟩
  rw [← hcr]
  unfold codeReadM at hcr
  obtain ⟨ok, hok⟩ : ∃ ok, ok = lensOkM l0 := ⟨_, rfl⟩
  have hlo := impl_LensOk.ev l0 (by omega)
  rw [← hok] at hcr hlo
  obtain ⟨kl, hkl⟩ := hlo.rounds
  have HKL := Aside0.mk hkl
  have HCR := Aside0.mk hcr
  have HR0 := Aside0.mk hr0
  have HC0 := Aside0.mk hc0
  have HR1 := Aside0.mk hr1
  have HC1 := Aside0.mk hc1
  have HBB := Aside0.mk (isB_all hb)
  clear hlo hkl hcr hr0 hc0 hr1 hc1 hb hok
  cases ok with
  | false =>
    go_enter Try.func18, Try.ntmps18
    go_wp2_with fail
    refine (impl_LensOk.calls kl A0 c0 l0 false _ HR0.out HC0.out HKL.out).mono ?_
    rintro e_ w_ ⟨rfl, ⟨nd, rfl⟩⟩
    go_wp2
    go_ret2
    have := HCR.out
    rw [if_neg (fun h => by cases h.1)] at this
    subst this
    exact ⟨_, rfl, Kd.R_nil _ _ _ _ _, pw_below_drewN (Below.refl _ _) _⟩
  | true =>
    have hwi := impl_within.val a2 0 60000
    by_cases hn : 0 ≤ a2 ∧ a2 ≤ 60000
    · obtain ⟨n0, n1⟩ := hn
      rw [show (decide (0 ≤ a2) && decide (a2 ≤ 60000)) = true by simp [n0, n1]] at hwi
      have HW := Aside0.mk hwi
      have hcr := HCR.out
      rw [if_pos ⟨rfl, n0, n1⟩] at hcr
      replace HCR := Aside0.mk hcr
      obtain ⟨N, rfl⟩ := Int.eq_ofNat_of_zero_le n0
      clear hwi hcr
      go_enter Try.func18, Try.ntmps18
      go_wp2_with fail
      refine (impl_LensOk.calls kl A0 c0 l0 true _ HR0.out HC0.out HKL.out).mono ?_
      rintro e_ w_ ⟨rfl, ⟨nd, rfl⟩⟩
      go_wp2_with fail
      refine (impl_within.calls (N : Int) 0 60000 true _ HW.out).mono ?_
      rintro e_ w_ ⟨rfl, ⟨nd2, rfl⟩⟩
      go_wp2_with fail
      refine (newDecoder_calls A0 c0 l0 (w.drewN (nd + nd2)) (Kd.C_drewN HR0.out _) HC0.out (by omega)).mono ?_
      rintro e_ w2 ⟨rfl, hd, hb2⟩
      have HD := Aside0.mk (show DecK w2 w.heap.size (codesM l0) (codesM l0).length from hd)
      have HB := Aside0.mk (show Below w.heap.size w w2 from (pw_below_drewN (Below.refl w.heap.size w) (nd + nd2)).trans hb2)
      rw [show (w.drewN (nd + nd2)).heap.size = w.heap.size from rfl]
      generalize hB : w.heap.size = B at HD ⊢
      have HBG := Aside0.mk (show w.heap.size ≤ B by omega)
      have HAP := Aside0.mk (codesM_apart l0)
      clear hd hb2 hB
      generalize codesM l0 = cs at HD HAP HCR
      have hbr := blk_new w2 (Obj.cells #[.slice A1 l1.length c1, .int .i64 0, .int .i64 0] 100)
      have hal := below_alloc (Below.refl w2.heap.size w2) (Obj.cells #[.slice A1 l1.length c1, .int .i64 0, .int .i64 0] 100)
      have HD2 := Aside0.mk (HD.out.below hal)
      have HB2 := Aside0.mk (Below.trans HB.out (hal.mono HB.out.size))
      have HRD := Aside0.mk (show RdK w (w2.alloc (Obj.cells #[.slice A1 l1.length c1, .int .i64 0, .int .i64 0] 100)) w2.heap.size l1 0 from RdK.start hbr HB.out.size HR1.out HC1.out)
      have HGW := Aside0.mk (show (w2.alloc (Obj.cells #[.slice A1 l1.length c1, .int .i64 0, .int .i64 0] 100)).heap.size = w2.heap.size + 1 from World.size_alloc _ _)
      clear hbr hal HD HB
      go_wp2_with (first | ((with_reducible refine gate_dst (N := 26) rfl ?_); refine Kd.R_lit (w0 := w) (Kd.int .i64) w.heap.size 3 ?hg (N := 26) ?hd (xs := ([] : List Int)) (inner := []) (ok := fun _ => True) (okp := fun _ => True) ?hr ?hp (fun _ hk => hk) trivial HB2.out HB2.out.size (by simp) ?_; (case hd => rfl); (case hg => rfl); (case hr => first | (go_simp; done) | (go_simp; rfl)); (case hp => exact (Reps.none _ _)); intro v10 w3 ho hb hg_ hnew_; have HO := Aside0.mk ho; have HB := Aside0.mk hb; have HG := Aside0.mk hg_; clear ho hb hg_ hnew_))
      have HRD3 := Aside0.mk (HRD.out.grown HG.out (by simp))
      have HD3 := Aside0.mk (HD2.out.grown HG.out (by simp))
      clear HRD HD2 HB2 HG HGW
      generalize w2.heap.size = g at HRD3 ⊢
      go_loopw [10, 28] (fun v10 v28 w' => CrdRel w B g cs l1 N v10 v28 w') (fun v10 v28 w' => N - (intOf v28).toNat)
      case atStart => exact ⟨0, 0, [], rfl, by omega, HRD3, HD3, HB, HO, ⟨by simp⟩, ⟨rfl⟩⟩
      case round =>
        clear HRD3 HD3 HB HO
        obtain ⟨i, p, out, rfl, hi, HRD, HD, HB, HO, HU, HL⟩ := hrel
        by_cases hlt : i < N
        · obtain ⟨r, hr⟩ : ∃ r, N - i = r + 1 := ⟨N - i - 1, by omega⟩
          have hu := HU.out
          rw [hr] at hu
          simp only [readM] at hu
          have hll := HL.out
          cases hf : symM cs l1 16 0 0 p with
          | none =>
            rw [hf] at hu
            have HF := Aside0.mk hf
            have HUU := Aside0.mk hu
            clear hf hu
            go_wp2_with fail
            refine (read_calls w _ g B cs l1 p none HB.out HRD.out HD.out HBB.out HAP.out HF.out HBG.out).mono ?_
            rintro e_ w4 ⟨hb4, hk4, hd4, rfl⟩
            have HB4 := Aside0.mk hb4
            clear hb4 hk4 hd4
            go_wp2
            go_ret2
            have h1 := HUU.out
            simp only [Option.map_none] at h1
            have := HCR.out
            rw [show ((N : Int).toNat) = N from Int.toNat_natCast N, ← h1] at this
            subst this
            exact ⟨_, rfl, Kd.R_nil _ _ _ _ _, HB4.out⟩
          | some z =>
            obtain ⟨s, q⟩ := z
            rw [hf] at hu
            have HF := Aside0.mk hf
            have HUU := Aside0.mk hu
            clear hf hu
            go_wp2_with fail
            refine (read_calls w _ g B cs l1 p (some (s, q)) HB.out HRD.out HD.out HBB.out HAP.out HF.out HBG.out).mono ?_
            rintro e_ w4 ⟨hb4, hk4, hd4, rfl, hr4⟩
            obtain ⟨bc, hbc⟩ := HRD.out.blk
            have HO4 := Aside0.mk (Kd.R_keep (Kd.R_types HO.out hbc (by decide)) hk4 (fun k hk => hk.2))
            have HB4 := Aside0.mk hb4
            have HD4 := Aside0.mk hd4
            have HR4 := Aside0.mk hr4
            clear hb4 hk4 hd4 hr4 hbc HO HB HD HRD
            obtain ⟨x, hx⟩ : ∃ x : Int, x = (s : Int) := ⟨_, rfl⟩
            rw [← hx]
            have HX := Aside0.mk hx
            clear hx
            go_wp2_with (first | ((with_reducible refine gate_builtin (b := .append) (xs := #[.tmp 38, .tmp 40]) rfl ?_); at_builtin; refine Kd.R_append (Kd.int .i64) (w0 := w) w.heap.size rfl (.tmp 38) (.tmp 40) 22 3 (.int .i64 0) 8 rfl Try.underlying22 info3 rfl (by decide) (by omega) _ out x [.int .i64 x] (fun _ => True) (fun _ => False) rfl rfl rfl (fun _ hk => hk.elim) (fun _ _ => trivial) (Kd.R_mono HO4.out (fun _ _ => trivial)) HB4.out HB4.out.size (by omega) ?_; intro v8 w5 ho hb hg hat; have HO := Aside0.mk ho; have HB := Aside0.mk hb; have HG := Aside0.mk hg; clear ho hb hg hat))
            go_roundw
            case rel =>
              obtain ⟨bc, hbc⟩ := HR4.out.blk
              refine ⟨i + 1, q, out ++ [x], by go_num, by omega, ⟨HR4.out.grown HG.out (Kd.R_ne HO4.out hbc (by decide))⟩, ⟨HD4.out.grown HG.out (HD4.out.neR HO4.out)⟩, HB, HO, ⟨?_⟩, ⟨by simp [HL.out]⟩⟩
              rw [← HUU.out, show N - (i + 1) = r by omega]
              (try simp only [])
              rw [Option.map_map]
              congr 1
              funext l
              simp [HX.out]
            case measure => simp [intOf]; omega
        · obtain rfl : i = N := by omega
          have h1 := HU.out
          rw [Nat.sub_self] at h1
          simp only [readM, Option.map_some, List.append_nil] at h1
          have HUU := Aside0.mk h1
          clear h1
          go_wp2
          go_ret2
          have := HCR.out
          rw [show ((i : Int).toNat) = i from Int.toNat_natCast i, ← HUU.out] at this
          subst this
          exact ⟨_, rfl, HO.out, HB.out⟩
    · have hf : (decide (0 ≤ a2) && decide (a2 ≤ 60000)) = false := by
        rw [Bool.eq_false_iff]; intro h; simp only [Bool.and_eq_true, decide_eq_true_eq] at h; exact hn h
      rw [hf] at hwi
      have HW := Aside0.mk hwi
      have hcr := HCR.out
      rw [if_neg (fun h => hn h.2)] at hcr
      subst hcr
      clear hwi hf hn HCR
      go_enter Try.func18, Try.ntmps18
      go_wp2_with fail
      refine (impl_LensOk.calls kl A0 c0 l0 true _ HR0.out HC0.out HKL.out).mono ?_
      rintro e_ w_ ⟨rfl, ⟨nd, rfl⟩⟩
      go_wp2_with fail
      refine (impl_within.calls a2 0 60000 false _ HW.out).mono ?_
      rintro e_ w_ ⟨rfl, ⟨nd2, rfl⟩⟩
      go_wp2
      go_ret2
      exact ⟨_, rfl, Kd.R_nil _ _ _ _ _, by repeat (first | exact Below.refl _ _ | apply pw_below_drewN)⟩
theorem impl_CodeRead.calls (A0 : Option Addr) (c0 : Nat) (l0 : List Int) (A1 : Option Addr) (c1 : Nat) (l1 : List Int) (a2 : Int) (r1 : List Int) (r2 : Bool) (w : World) (hr0 : Kd.C (Kd.int .i64) w A0 l0.length l0) (hc0 : l0.length ≤ c0) (hr1 : Kd.C (Kd.int .u8) w A1 l1.length l1) (hc1 : l1.length ≤ c1) (h : impl_CodeRead.f l0 l1 a2 = some (r1, r2)) :
    Calls Try.prog 18 #[.slice A0 l0.length c0, .slice A1 l1.length c1, .int .i64 a2] w fun e w' => ∃ v0_ : Value, e = .returned (.tuple #[v0_, .bool r2]) ∧ Kd.R (Kd.int .i64) 3 w' w.heap.size (fun _ => True) v0_ r1 ∧ Below w.heap.size w w' := by
  unfold impl_CodeRead.f at h
  split at h
  · rename_i hc
    have hp := codeRead_calls A0 c0 l0 A1 c1 l1 a2 w hr0 hc0 hr1 hc1 hc.1 hc.2.1 hc.2.2
    rw [Option.some.inj h] at hp
    exact hp
  · cases h

end Go.Proofs.Ytcjjmfpkhhdmlaa.G
