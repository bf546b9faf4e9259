-- Written by gp.py (a program of this session's, over the kit's print). Not trusted: Lean checks it.
import Derived.Test.YtcjjmfpkhhdmlaaG0h
import Derived.Test.YtcjjmfpkhhdmlaaG146
import Derived.Test.YtcjjmfpkhhdmlaaG77
import Derived.Test.YtcjjmfpkhhdmlaaG78
import Derived.Test.YtcjjmfpkhhdmlaaG79
import Derived.Test.YtcjjmfpkhhdmlaaGCodes
import Derived.Test.YtcjjmfpkhhdmlaaGReader
import Derived.BigRegion
namespace Go.Proofs.Ytcjjmfpkhhdmlaa.G
open Go.RowKit Go.Proofs.YtcjjmfpkhhdmlaaW.PrintWords Go.Proofs.YtcjjmfpkhhdmlaaW.PrintLast Go.Proofs.YtcjjmfpkhhdmlaaW.PrintMore
attribute [local go_sem] max2_int min2_int max_two min_two max_three min_three max_four min_four   -- for this text's walks alone
set_option linter.unusedVariables false
set_option linter.unusedSimpArgs false

/-! ### spec_CodeRead: function 15 -/
--import Derived.BigRegion
def spec_CodeRead.f (l0 l1 : List Int) (a2 : Int) : Option (List Int × Bool) := if isB l1 ∧ l1.length ≤ 1048576 ∧ l0.length ≤ 1048576 then some (codeReadM l0 l1 a2) else none
def ScrRel (w : World) (g : Nat) (A : Option Addr) (c : Nat) (cs : List S124) (b : List Int) (N : Nat) (kq : Nat) (v9 : Value) (w' : World) : Prop :=
  ∃ (i p : Nat) (out : List Int) (Ao : Option Addr) (co : Nat), v9 = .slice Ao i co ∧ i ≤ N ∧ Aside0 (IsS92 w w' g b (p : Int) false) ∧ Aside0 (Kd.R k124 124 w' w.heap.size (fun _ => True) (.slice A cs.length c) cs) ∧ Aside0 (Below w.heap.size w w') ∧ Aside0 (Kd.R (Kd.int .i64) 3 w' w.heap.size (fun _ => True) (.slice Ao i co) out) ∧ Aside0 ((readM cs b (N - i) p).map (out ++ ·) = readM cs b N 0) ∧ Aside0 (out.length = i) ∧ p ≤ 8 * b.length ∧ kq = N - i + 1
set_option maxRecDepth 100000 in
set_option maxHeartbeats 4000000 in
theorem scodeRead_calls (A0 : Option Addr) (c0 : Nat) (l0 : List Int) (A1 : Option Addr) (c1 : Nat) (l1 : List Int) (a2 : Int) (w : World) (hr0 : Kd.C (Kd.int .i64) w A0 l0.length l0) (hc0 : l0.length ≤ c0) (hr1 : Kd.C (Kd.int .u8) w A1 l1.length l1) (hc1 : l1.length ≤ c1) (hb : isB l1 = true) (hl1 : l1.length ≤ 1048576) (hl0 : l0.length ≤ 1048576) :
    Calls Try.prog 15 #[.slice A0 l0.length c0, .slice A1 l1.length c1, .int .i64 a2] w fun e w' => ∃ v0_ : Value, e = .returned (.tuple #[v0_, .bool (codeReadM l0 l1 a2).2]) ∧ Kd.R (Kd.int .i64) 3 w' w.heap.size (fun _ => True) v0_ (codeReadM l0 l1 a2).1 ∧ Below w.heap.size w w' := by
  obtain ⟨cr, hcr⟩ : ∃ cr, cr = codeReadM l0 l1 a2 := ⟨_, rfl⟩
  rw [← hcr]
  unfold codeReadM at hcr
  obtain ⟨kc, hkc⟩ := (spec_CodesOf.ev l0).rounds
  have HKC := Aside0.mk hkc
  have hcl : lensOkM l0 = false → (codesM l0).length = 0 := fun h => by unfold codesM; rw [h]; rfl
  have hct : lensOkM l0 = true → 1 ≤ (codesM l0).length := fun h => by have := codesM_length l0 h; omega
  have hcs := codesM_small l0
  have HIN := Aside0.mk (codes_in l0)
  obtain ⟨cs, hcs0⟩ : ∃ cs, cs = codesM l0 := ⟨_, rfl⟩
  rw [← hcs0] at hcr HKC hcl hct hcs
  obtain ⟨ok, hok⟩ : ∃ ok, ok = lensOkM l0 := ⟨_, rfl⟩
  rw [← hok] at hcr hcl hct
  have HCR := Aside0.mk hcr
  have HR0 := Aside0.mk hr0
  have HC0 := Aside0.mk hc0
  have HR1 := Aside0.mk hr1
  have HC1 := Aside0.mk hc1
  have HBB := Aside0.mk (isB_all hb)
  clear hkc hcr hr0 hc0 hr1 hc1 hb hok hcs0
  go_enter Try.func15, Try.ntmps15
  go_wp2_with fail
  refine (spec_CodesOf.calls kc A0 c0 l0 cs _ HR0.out HC0.out HKC.out).mono ?_
  rintro e_ w1 ⟨v, rfl, ho, hb1⟩
  obtain ⟨Ac, cc, e1⟩ := Kd.R_slice ho
  subst e1
  have HCd := Aside0.mk ho
  have HB1 := Aside0.mk hb1
  clear ho hb1
  go_upto_region 3 with (first | ((with_reducible refine gate_dst (N := 15) rfl ?_); refine Kd.R_lit (w0 := w) (Kd.int .i64) w.heap.size 3 ?hg (N := 15) ?hd (xs := ([] : List Int)) (inner := []) (ok := fun _ => True) (okp := fun _ => True) ?hr ?hp (fun _ hk => hk) trivial HB1.out HB1.out.size (by simp) ?_; (case hd => rfl); (case hg => rfl); (case hr => first | (go_simp; done) | (go_simp; rfl)); (case hp => exact (Reps.none _ _)); intro v9 w2 ho hb hg_ hnew_; have HO := Aside0.mk ho; have HB := Aside0.mk hb; have HG := Aside0.mk hg_; clear ho hb hg_ hnew_))
  have HCe := Aside0.mk (Kd.R_grown2 HCd.out rfl HG.out (by simp))
  clear HCd HB1 HG
  obtain ⟨Ao0, co0, eo⟩ := Kd.R_slice HO.out
  subst eo
  cases ok with
  | false =>
    have h0 := hcl rfl
    have z1 : ((cs.length : Int) == 0) = true := by rw [beq_iff_eq]; omega
    have z2 : (cs.length == 0) = true := by rw [beq_iff_eq]; omega
    have hcr := HCR.out
    rw [if_neg (fun h => by cases h.1)] at hcr
    subst hcr
    clear hcl hct h0 hcs
    go_wp2
    go_ret2
    exact ⟨_, rfl, HO.out, HB.out⟩
  | true =>
    have h0 := hct rfl
    have z1 : ((cs.length : Int) == 0) = false := by rw [beq_eq_false_iff_ne]; omega
    have z2 : (cs.length == 0) = false := by rw [beq_eq_false_iff_ne]; omega
    clear hcl hct h0
    have hwi := spec_l01Between.val a2 0 60000
    by_cases hn : 0 ≤ a2 ∧ a2 ≤ 60000
    · obtain ⟨n0, n1⟩ := hn
      rw [show (decide (0 ≤ a2) && decide (a2 ≤ 60000)) = true by simp [n0, n1]] at hwi
      have HW := Aside0.mk hwi
      have hcr := HCR.out
      rw [if_pos ⟨rfl, n0, n1⟩] at hcr
      replace HCR := Aside0.mk hcr
      obtain ⟨N, rfl⟩ := Int.eq_ofNat_of_zero_le n0
      clear hwi hcr
      go_wp2_with fail
      refine (spec_l01Between.calls (N : Int) 0 60000 true _ HW.out).mono ?_
      rintro e_ w_ ⟨rfl, ⟨nd, rfl⟩⟩
      have HO2 := Aside0.mk (Kd.R_drewN HO.out nd)
      have HCe2 := Aside0.mk (Kd.R_drewN HCe.out nd)
      have HB2 := Aside0.mk (pw_below_drewN HB.out nd)
      generalize w2.drewN nd = w3 at HO2 HCe2 HB2 ⊢
      clear HO HCe HB
      go_wp2_with fail
      have hal := below_alloc (Below.refl w3.heap.size w3) (Obj.cells #[.slice A1 l1.length c1, .int .i64 0, .bool false] 92)
      have HI := Aside0.mk (IsS92.new w w3 A1 c1 l1 0 false HB2.out HR1.out)
      have HO3 := Aside0.mk (Kd.R_below HO2.out hal)
      have HCe3 := Aside0.mk (Kd.R_lower (Kd.R_below HCe2.out hal) (Nat.le_refl _))
      have HB3 := Aside0.mk (below_alloc HB2.out (Obj.cells #[.slice A1 l1.length c1, .int .i64 0, .bool false] 92))
      generalize w3.alloc (Obj.cells #[.slice A1 l1.length c1, .int .i64 0, .bool false] 92) = w4 at HI HO3 HCe3 HB3 ⊢
      generalize w3.heap.size = g at HI ⊢
      clear hal HO2 HCe2 HB2
      go_loopg [9] (N + 1) (fun kq v9 w' => ScrRel w g Ac cc cs l1 N kq v9 w')
      case atStart =>
        refine ⟨0, 0, [], Ao0, co0, rfl, by omega, ⟨HI.out⟩, ⟨?_⟩, HB3, HO3, ⟨by simp⟩, ⟨rfl⟩, by omega, rfl⟩
        exact HCe3.out
      case round =>
        clear HI HCe3 HB3 HO3
        obtain ⟨i, p, out, Ao, co, rfl, hi, HI, HCe, HB, HO, HU, HL, hp, rfl⟩ := hrel
        obtain ⟨At, ct, hblk, hblk2⟩ := HI.out
        have HBL := Aside0.mk hblk
        have hc2 := (Kd.R_reads' HCe.out).2.1
        by_cases hlt : i < N
        · obtain ⟨r, hr⟩ : ∃ r, N - i = r + 1 := ⟨N - i - 1, by omega⟩
          have hu := HU.out
          rw [hr] at hu
          simp only [readM] at hu
          have hll := HL.out
          obtain ⟨sy, sn⟩ := spec_l08Symbol.ev cs l1 HBB.out hl1 (by omega) p hp
          cases hf : symM cs l1 16 0 0 p with
          | none =>
            rw [hf] at hu
            obtain ⟨r3, r4, hs⟩ := sn hf
            obtain ⟨ks, hks⟩ := hs.rounds
            have HS := Aside0.mk hks
            have HUU := Aside0.mk hu
            clear hf hu sy sn hs hks hblk hblk2
            go_wp2_with fail
            refine (spec_l08Symbol.calls ks g l1 (p : Int) false Ac cc cs 0 false r3 r4 w _ HI.out HB.out (fun W_ hk => (Kd.R_reads' (Kd.R_keep (Kd.R_types HCe.out HBL.out (by decide)) hk (fun k h => h.2))).2.2) hc2 HS.out).mono ?_
            rintro e_ w5 ⟨rfl, hi5, hb5, hk5⟩
            have HB5 := Aside0.mk hb5
            clear hi5 hb5 hk5
            go_wp2_with (first | ((with_reducible refine gate_dst (N := 40) rfl ?_); refine Kd.R_lit (w0 := w) (Kd.int .i64) w.heap.size 3 ?hg (N := 40) ?hd (xs := ([] : List Int)) (inner := []) (ok := fun _ => True) (okp := fun _ => True) ?hr ?hp (fun _ hk => hk) trivial HB5.out HB5.out.size (by simp) ?_; (case hd => rfl); (case hg => rfl); (case hr => first | (go_simp; done) | (go_simp; rfl)); (case hp => exact (Reps.none _ _)); intro v40 w6 ho hb hg_ hnew_; have HO6 := Aside0.mk ho; have HB6 := Aside0.mk hb; clear ho hb hg_ hnew_))
            go_ret2
            have h1 := HUU.out
            simp only [Option.map_none] at h1
            have := HCR.out
            rw [show ((N : Int).toNat) = N from Int.toNat_natCast N, ← h1] at this
            subst this
            exact ⟨_, rfl, HO6.out, HB6.out⟩
          | some z =>
            obtain ⟨s, q⟩ := z
            rw [hf] at hu
            have hlts := symM_lt _ _ _ _ _ _ hf
            obtain ⟨ks, hks⟩ := (sy s q hf).rounds
            have HS := Aside0.mk hks
            have HUU := Aside0.mk hu
            have hq8 := hlts.2.2
            clear hf hu sy sn hks hblk hblk2 hlts
            go_wp2_with fail
            refine (spec_l08Symbol.calls ks g l1 (p : Int) false Ac cc cs _ true _ false w _ HI.out HB.out (fun W_ hk => (Kd.R_reads' (Kd.R_keep (Kd.R_types HCe.out HBL.out (by decide)) hk (fun k h => h.2))).2.2) hc2 HS.out).mono ?_
            rintro e_ w5 ⟨rfl, hi5, hb5, hk5⟩
            have HO5 := Aside0.mk (Kd.R_mono (Kd.R_keep (Kd.R_types HO.out HBL.out (by decide)) hk5 (fun k h => h.2)) (fun _ _ => trivial) (ok' := fun _ => True))
            have HC5 := Aside0.mk (Kd.R_mono (Kd.R_keep (Kd.R_types HCe.out HBL.out (by decide)) hk5 (fun k h => h.2)) (fun _ _ => trivial) (ok' := fun _ => True))
            have HI5 := Aside0.mk hi5
            have HB5 := Aside0.mk hb5
            clear hi5 hb5 hk5 HO HB HCe HI HBL
            obtain ⟨x, hx⟩ : ∃ x : Int, x = (s : Int) := ⟨_, rfl⟩
            rw [← hx]
            have HX := Aside0.mk hx
            clear hx
            go_wp2_with (first | ((with_reducible refine gate_builtin (b := .append) (xs := #[.tmp 41, .tmp 43]) rfl ?_); at_builtin; refine Kd.R_append (Kd.int .i64) (w0 := w) w.heap.size rfl (.tmp 41) (.tmp 43) 22 3 (.int .i64 0) 8 rfl Try.underlying22 info3 rfl (by decide) (by omega) _ out x [.int .i64 x] (fun _ => True) (fun _ => False) rfl rfl rfl (fun _ hk => hk.elim) (fun _ _ => trivial) HO5.out HB5.out HB5.out.size (by omega) ?_; intro v9 w6 ho hb hg hat; obtain ⟨A9, c9, e9⟩ := Kd.R_slice ho; rw [List.length_append, List.length_singleton, HL.out] at e9; subst e9; have HO := Aside0.mk ho; have HB := Aside0.mk hb; have HG := Aside0.mk hg; clear ho hb hg hat))
            go_roundg (N - (i + 1) + 1)
            case rel =>
              obtain ⟨At2, ct2, hblk3, hblk4⟩ := HI5.out
              refine ⟨i + 1, q, out ++ [x], A9, c9, rfl, by omega, ⟨IsS92.grown HI5.out HG.out (Kd.R_ne HO5.out hblk3 (by decide))⟩, ⟨?_⟩, HB, HO, ⟨?_⟩, ⟨by simp [HL.out]⟩, by omega, rfl⟩
              · exact Kd.R_grown2 HC5.out rfl HG.out (fun k hk => by obtain ⟨cs2, h2⟩ := Kd.R_typed HO5.out k hk; exact Kd.R_ne HC5.out h2 (by decide))
              · rw [← HUU.out, show N - (i + 1) = r by omega]
                (try simp only [])
                rw [Option.map_map]
                congr 1
                funext l
                simp [HX.out]
            case measure => simp; omega
        · obtain rfl : i = N := by omega
          have h1 := HU.out
          rw [Nat.sub_self] at h1
          simp only [readM, Option.map_some, List.append_nil] at h1
          have HUU := Aside0.mk h1
          clear h1 hblk hblk2
          go_wp2
          go_ret2
          have := HCR.out
          rw [show ((i : Int).toNat) = i from Int.toNat_natCast i, ← HUU.out] at this
          subst this
          exact ⟨_, rfl, HO.out, HB.out⟩
    · have hf : (decide (0 ≤ a2) && decide (a2 ≤ 60000)) = false := by
        rw [Bool.eq_false_iff]; intro h; simp only [Bool.and_eq_true, decide_eq_true_eq] at h; exact hn h
      rw [hf] at hwi
      have HW := Aside0.mk hwi
      have hcr := HCR.out
      rw [if_neg (fun h => hn h.2)] at hcr
      subst hcr
      clear hwi hf hn HCR
      go_wp2_with fail
      refine (spec_l01Between.calls a2 0 60000 false _ HW.out).mono ?_
      rintro e_ w_ ⟨rfl, ⟨nd, rfl⟩⟩
      go_wp2
      go_ret2
      exact ⟨_, rfl, Kd.R_drewN HO.out nd, pw_below_drewN HB.out nd⟩
theorem spec_CodeRead.calls (A0 : Option Addr) (c0 : Nat) (l0 : List Int) (A1 : Option Addr) (c1 : Nat) (l1 : List Int) (a2 : Int) (r1 : List Int) (r2 : Bool) (w : World) (hr0 : Kd.C (Kd.int .i64) w A0 l0.length l0) (hc0 : l0.length ≤ c0) (hr1 : Kd.C (Kd.int .u8) w A1 l1.length l1) (hc1 : l1.length ≤ c1) (h : spec_CodeRead.f l0 l1 a2 = some (r1, r2)) :
    Calls Try.prog 15 #[.slice A0 l0.length c0, .slice A1 l1.length c1, .int .i64 a2] w fun e w' => ∃ v0_ : Value, e = .returned (.tuple #[v0_, .bool r2]) ∧ Kd.R (Kd.int .i64) 3 w' w.heap.size (fun _ => True) v0_ r1 ∧ Below w.heap.size w w' := by
  unfold spec_CodeRead.f at h
  split at h
  · rename_i hc
    have hp := scodeRead_calls A0 c0 l0 A1 c1 l1 a2 w hr0 hc0 hr1 hc1 hc.1 hc.2.1 hc.2.2
    rw [Option.some.inj h] at hp
    exact hp
  · cases h

end Go.Proofs.Ytcjjmfpkhhdmlaa.G
