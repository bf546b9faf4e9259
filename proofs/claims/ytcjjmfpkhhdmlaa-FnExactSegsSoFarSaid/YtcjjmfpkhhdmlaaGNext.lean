-- Written by gp.py (a program of this session's, over the kit's print). Not trusted: Lean checks it.
import Derived.Test.YtcjjmfpkhhdmlaaG0h
import Derived.Test.YtcjjmfpkhhdmlaaG134
import Derived.Test.YtcjjmfpkhhdmlaaG165
import Derived.Test.YtcjjmfpkhhdmlaaG166
import Derived.Test.YtcjjmfpkhhdmlaaG167
import Derived.Test.YtcjjmfpkhhdmlaaG81
import Derived.Test.YtcjjmfpkhhdmlaaGClone
import Derived.Test.YtcjjmfpkhhdmlaaGLib
import Derived.Test.YtcjjmfpkhhdmlaaGReader
import Derived.Test.YtcjjmfpkhhdmlaaGSegs
import Derived.BigRegion
import Derived.Deep.CutRange
import Derived.Deep.RegionHeld3
import Derived.Deep.CutBlock
import Derived.Deep.RegionLaw
namespace Go.Proofs.Ytcjjmfpkhhdmlaa.G
open Go.RowKit Go.Proofs.YtcjjmfpkhhdmlaaW.PrintWords Go.Proofs.YtcjjmfpkhhdmlaaW.PrintLast Go.Proofs.YtcjjmfpkhhdmlaaW.PrintMore
attribute [local go_sem] max2_int min2_int max_two min_two max_three min_three max_four min_four   -- for this text's walks alone
set_option linter.unusedVariables false
set_option linter.unusedSimpArgs false

--import Derived.BigRegion
--import Derived.Deep.CutRange
--import Derived.Deep.RegionHeld3
--import Derived.Deep.CutBlock
--import Derived.Deep.RegionLaw
/-! the program's reader of segments, walked -/
def SegK (w0 W : World) (g gq : Nat) (A : Option Addr) (c : Nat) (b : List Int) (at_ : Nat) (l : List S131) : Prop :=
  Below w0.heap.size w0 W ∧ ∃ v, W.heap[g]? = some (.cells #[.slice A b.length c, .int .i64 (at_ : Int), v] 136 (0, 0)) ∧ Kd.S k131 131 W w0.heap.size (fun _ => True) v l ∧ W.heap[gq]? = some (.cells #[.int .i64 0, .int .i64 0] 65 (0, 0))
theorem SegK.fin {w0 W : World} {g gq gr : Nat} {A : Option Addr} {c : Nat} {b : List Int} {at_ : Nat} {l : List S131} (h : SegK w0 W g gq A c b at_ l) {x y : Value} (hr : W.heap[gr]? = some (.cells #[x, y] 65 (0, 0))) (hne : g ≠ gr) (hqr : gq ≠ gr) (hg : w0.heap.size ≤ gr) (C P : Value) :
    SegK w0 ((W.setCell ⟨gr, 0, none⟩ C).setCell ⟨gr, 1, none⟩ P) g gq A c b at_ l ∧ ((W.setCell ⟨gr, 0, none⟩ C).setCell ⟨gr, 1, none⟩ P).heap[gr]? = some (.cells #[C, P] 65 (0, 0)) := by
  obtain ⟨h1, v, h2, h3, h4⟩ := h
  refine ⟨⟨below_set (below_set h1 hg) hg, v, blk_far (blk_far h2 hne _) hne _, ?_, blk_far (blk_far h4 hqr _) hqr _⟩, ?_⟩
  · exact Kd.S_mono (Kd.S_far (p := ⟨gr, 1, none⟩) (Kd.S_far (p := ⟨gr, 0, none⟩) (Kd.S_types h3 hr (by decide)) (fun k hk => hk.2) _) (fun k hk => hk.2) _) (fun _ _ => trivial)
  · exact blk_set (blk_set hr 0 C) 1 P
theorem SegK.drewN {w0 W : World} {g gq : Nat} {A : Option Addr} {c : Nat} {b : List Int} {at_ : Nat} {l : List S131} (h : SegK w0 W g gq A c b at_ l) (n : Nat) : SegK w0 (W.drewN n) g gq A c b at_ l := by
  obtain ⟨h1, v, h2, h3, h4⟩ := h
  exact ⟨pw_below_drewN h1 n, v, h2, Kd.S_drewN h3 n, h4⟩
theorem SegK.drew {w0 W : World} {g gq : Nat} {A : Option Addr} {c : Nat} {b : List Int} {at_ : Nat} {l : List S131} (h : SegK w0 W g gq A c b at_ l) : SegK w0 W.drew g gq A c b at_ l := by
  obtain ⟨h1, v, h2, h3, h4⟩ := h
  exact ⟨below_drew h1, v, h2, Kd.S_drew h3, h4⟩
theorem SegK.at_ {w0 W : World} {g gq : Nat} {A : Option Addr} {c : Nat} {b : List Int} {at_ : Nat} {l : List S131} (h : SegK w0 W g gq A c b at_ l) (hg : w0.heap.size ≤ g) (hqg : gq ≠ g) (n : Nat) : SegK w0 (W.setCell ⟨g, 1, none⟩ (.int .i64 (n : Int))) g gq A c b n l := by
  obtain ⟨h1, v, h2, h3, h4⟩ := h
  exact ⟨below_set h1 hg, v, blk_set h2 1 _, Kd.S_set h3 h2 (by decide) 1 _, blk_far h4 hqg _⟩
theorem S_ok2 {α : Type} {d : Kd α} {e base : Nat} {w : World} {ok : Nat → Prop} {v : Value} {xs : List α} (h : Kd.S d e w base ok v xs) : ∀ k, v.ownBlock = some k → ok k := by
  obtain ⟨f, h0, _⟩ := h
  exact h0
theorem last_rd (l : List S131) (h : 0 < l.length) (h2 : l.length ≤ 300) : rd_T131 l (wrap64 ((l.length : Int) - 1)) = l.getLast (List.ne_nil_of_length_pos h) := by
  rw [wrap_in _ (by omega) (by omega)]
  unfold rd_T131
  rw [show ((l.length : Int) - 1).toNat = l.length - 1 by omega, List.getLast_eq_getElem]
  simp [show l.length - 1 < l.length by omega]
theorem mayRun_val (l : List S131) (h : l.length ≤ 300) : impl_mayRun.f l = some (mayRunM l) := by
  unfold impl_mayRun.f mayRunM
  by_cases hl : 0 < l.length
  · rw [if_pos (by omega), if_pos (by rw [wrap_in _ (by omega) (by omega)]; omega), if_pos (by rw [wrap_in _ (by omega) (by omega)]; omega), last_rd l hl h, List.getLast?_eq_some_getLast (List.ne_nil_of_length_pos hl)]
  · have : l = [] := List.eq_nil_of_length_eq_zero (by omega)
    subst this
    rfl
theorem mayRest_val (l : List S131) (h : l.length ≤ 300) : impl_mayRestart.f l = some (mayRestM l) := by
  unfold impl_mayRestart.f mayRestM
  by_cases hl : 0 < l.length
  · rw [if_pos (by omega), if_pos (by rw [wrap_in _ (by omega) (by omega)]; omega), if_pos (by rw [wrap_in _ (by omega) (by omega)]; omega), last_rd l hl h, List.getLast?_eq_some_getLast (List.ne_nil_of_length_pos hl)]
  · have : l = [] := List.eq_nil_of_length_eq_zero (by omega)
    subst this
    rfl
theorem isRest_val (m : Int) : impl_isRestart.f m = some (isRest m) := by
  unfold impl_isRestart.f isRest
  rw [impl_within.val]
  rfl
set_option maxRecDepth 100000 in
set_option maxHeartbeats 4000000 in
theorem next_calls_a (w0 W : World) (g gq : Nat) (A : Option Addr) (c : Nat) (b : List Int) (at_ : Nat) (l : List S131) (h : SegK w0 W g gq A c b at_ l) (hg : w0.heap.size ≤ g) (hqg : gq ≠ g) (hC : Kd.C (Kd.int .u8) w0 A b.length b) (hc : b.length ≤ c) (hat : at_ ≤ b.length) (hlen : b.length ≤ 60000) (hB : ∀ x ∈ b, 0 ≤ x ∧ x ≤ 255) (hl : l.length ≤ 300) (hE : ¬ (¬ (b.drop at_ = [] ∨ b.drop at_ = [255]) ∧ markM (b.drop at_) ≠ 254 ∧ badM (markM (b.drop at_)) l = false ∧ l.length ≠ 300)) :
    Calls Try.prog 133 #[.pointer (some ⟨g, 0, none⟩)] W fun e w' => e = .returned (.tuple #[.bool (nxt b at_ l).1, .agg #[.int .i64 (nxt b at_ l).2.1, .int .i64 (nxt b at_ l).2.2.1]]) ∧ SegK w0 w' g gq A c b (nxt b at_ l).2.2.2.1 (nxt b at_ l).2.2.2.2 := by
  obtain ⟨hbel, v, hk, hS, hq⟩ := h
  have HQ := Aside0.mk hq
  have k0 := blk_cell hk 0
  have k1 := blk_cell hk 1
  have k2 := blk_cell hk 2
  simp at k0 k1 k2
  obtain ⟨Al, cl, el⟩ := Kd.S_slice hS
  subst el
  have HBEL := Aside0.mk hbel
  have HK := Aside0.mk hk
  have HS := Aside0.mk hS
  have HCB := Aside0.mk hC
  have HCC := Aside0.mk hc
  have HBB := Aside0.mk hB
  have hatc : at_ ≤ c := by omega
  have HE := Aside0.mk hE
  clear hE
  clear hbel hk hS hC hB hq
  obtain ⟨R, hR⟩ : ∃ R, R = nxt b at_ l := ⟨_, rfl⟩
  rw [← hR]
  have HRR := Aside0.mk hR
  clear hR
  go_enter Try.func133, Try.ntmps133
  go_upto_region 1 with (fail)
  have hr := blk_new W (Obj.cells #[.int .i64 0, .int .i64 0] 65)
  have HK1 := Aside0.mk (blk_alloc HK.out (Obj.cells #[.int .i64 0, .int .i64 0] 65))
  have HS1 := Aside0.mk (Kd.S_alloc HS.out (Obj.cells #[.int .i64 0, .int .i64 0] 65))
  have HB1 := Aside0.mk (below_alloc HBEL.out (Obj.cells #[.int .i64 0, .int .i64 0] 65))
  have hgr : g ≠ W.heap.size := by have := blk_lt HK.out; omega
  have hqr : gq ≠ W.heap.size := by have := blk_lt HQ.out; omega
  have HQ1 := Aside0.mk (blk_alloc HQ.out (Obj.cells #[.int .i64 0, .int .i64 0] 65))
  have hgw : w0.heap.size ≤ W.heap.size := HBEL.out.size
  generalize W.heap.size = gr at hr hgr hqr hgw ⊢
  generalize W.alloc (Obj.cells #[.int .i64 0, .int .i64 0] 65) = W1 at hr HK1 HS1 HB1 HQ1 ⊢
  clear k0 k1 k2 HK HS HBEL HQ
  have k0 := blk_cell HK1.out 0
  have k1 := blk_cell HK1.out 1
  have k2 := blk_cell HK1.out 2
  simp at k0 k1 k2
  have HR := Aside0.mk hr
  clear hr
  go_wp2
  go_quiet (fail)
  go_upto_block 0 with (fail)
  obtain ⟨rest, hrest⟩ : ∃ rest, rest = b.drop at_ := ⟨_, rfl⟩
  have hrl : b.length - at_ = rest.length := by rw [hrest, List.length_drop]
  have hrc : Kd.C (Kd.int .u8) w0 (if c = at_ then A else A.map (·.add at_)) rest.length rest := by
    have h9 := Kd.C_drop HCB.out hat HCC.out
    rw [show (Kd.int IntKind.u8).sz = 1 from rfl] at h9
    simp only [Nat.mul_one] at h9
    rw [hrest]
    exact h9
  rw [hrl]
  generalize (if c = at_ then A else Option.map (fun x => x.add at_) A) = Ar at hrc ⊢
  have hrcc : rest.length ≤ c - at_ := by rw [← hrl]; omega
  have HRC := Aside0.mk hrc
  have HRCC := Aside0.mk hrcc
  have HREST := Aside0.mk hrest
  have HRL := Aside0.mk hrl
  have HRB := Aside0.mk (show ∀ x ∈ rest, 0 ≤ x ∧ x ≤ 255 from fun x hx => HBB.out x (by rw [hrest] at hx; exact List.mem_of_mem_drop hx))
  have HSG : Aside0 (SegK w0 (W1.drewN nq) g gq A c b at_ l) := ⟨pw_below_drewN HB1.out nq, _, HK1.out, Kd.S_drewN HS1.out nq, HQ1.out⟩
  have HR2 : Aside0 ((W1.drewN nq).heap[gr]? = some (.cells #[.int .i64 0, .int .i64 0] 65 (0, 0))) := ⟨HR.out⟩
  have HRC1 := Aside0.mk (Kd.C_below hrc HSG.out.1)
  generalize hcr : c - at_ = cr at HRCC ⊢
  generalize W1.drewN nq = W2 at HSG HR2 HRC1 ⊢
  clear hrest hrl hrc hrcc HK1 HS1 HB1 HQ1 HR k0 k1 k2 hcr
  have j0 : W2.cell? ⟨g, 0, none⟩ = some (.slice A b.length c) := by obtain ⟨_, v, h2, _⟩ := HSG.out; exact blk_cell h2 0
  have j1 : W2.cell? ⟨g, 1, none⟩ = some (.int .i64 (at_ : Int)) := by obtain ⟨_, v, h2, _⟩ := HSG.out; exact blk_cell h2 1
  have r0 : W2.cell? ⟨gr, 0, none⟩ = some (.int .i64 0) := blk_cell HR2.out 0
  have r1 : W2.cell? ⟨gr, 1, none⟩ = some (.int .i64 0) := blk_cell HR2.out 1
  have f0 : W2.frozen? ⟨gr, 0, none⟩ = false := blk_frozen HR2.out 0
  have f1 : W2.frozen? ⟨gr, 1, none⟩ = false := blk_frozen HR2.out 1
  by_cases hend : rest = [] ∨ rest = [255]
  · have hRe : R = (false, 3, (b.length : Int), at_, l) := by rw [HRR.out, nxt, ← HREST.out, if_pos hend]
    subst hRe

    rcases hend with he | he
    · subst he
      go_wp2
      go_region
      go_wp2
      obtain ⟨e1_, e2_⟩ := SegK.fin HSG.out HR2.out hgr hqr hgw (.int .i64 3) (.int .i64 b.length)
      refine bodyPost_ret (results_list (rs := [.tmp 2, .cell 3 65]) rfl (by simp) (.tmp (.cell gr 65 #[.int .i64 3, .int .i64 b.length] (0, 0) _ rfl (by exact e2_) Try.underlying65 rfl (by kernel_rfl) .nil))) rfl ?_
      exact ⟨rfl, by first | exact e1_.drew | exact e1_⟩
    · subst he
      obtain ⟨ad, q1, hx⟩ := Kd.at_int HRC1.out 0 (by omega) (by simp)
      cases q1
      rw [show (0 : Int).toNat = 0 from rfl, Addr.add_zero', show rd [255] 0 = 255 from rfl] at hx
      go_wp2
      go_region
      go_wp2
      obtain ⟨e1_, e2_⟩ := SegK.fin HSG.out HR2.out hgr hqr hgw (.int .i64 3) (.int .i64 b.length)
      refine bodyPost_ret (results_list (rs := [.tmp 2, .cell 3 65]) rfl (by simp) (.tmp (.cell gr 65 #[.int .i64 3, .int .i64 b.length] (0, 0) _ rfl (by exact e2_) Try.underlying65 rfl (by kernel_rfl) .nil))) rfl ?_
      exact ⟨rfl, by first | exact e1_.drew | exact e1_⟩

  · have hne : rest ≠ [] := fun e => hend (.inl e)
    have hlr : 0 < rest.length := List.length_pos_iff.2 hne
    obtain ⟨ad, q1, hx0⟩ := Kd.at_int HRC1.out 0 (by omega) (by omega)
    cases q1
    rw [show (0 : Int).toNat = 0 from rfl, Addr.add_zero'] at hx0
    have hx1 : 1 < rest.length → W2.cell? ⟨ad.block, ad.off + 1, none⟩ = some (.int .u8 (rd rest 1)) := fun h => by
      obtain ⟨ad', q2, hx⟩ := Kd.at_int HRC1.out 1 (by omega) (by omega)
      cases q2
      have e := add_field ad 0 1 (by omega)
      rw [Nat.zero_add, Addr.add_zero'] at e
      rw [show (1 : Int).toNat = 1 from rfl, e] at hx
      exact hx
    have HX1 := Aside0.mk hx1
    obtain ⟨b0, hb0⟩ : ∃ b0, b0 = rd rest 0 := ⟨_, rfl⟩
    obtain ⟨b1, hb1⟩ : ∃ b1, b1 = rd rest 1 := ⟨_, rfl⟩
    obtain ⟨m, hm⟩ : ∃ m, m = markM rest := ⟨_, rfl⟩
    have hm2 : m = if b0 ≠ 255 ∨ b1 = 0 then 0 else b1 := by rw [hm, markM, hb0, hb1]
    have hb0r : 0 ≤ b0 ∧ b0 ≤ 255 := by
      rw [hb0]; cases rest with
      | nil => simp at hlr
      | cons x t => exact HRB.out x List.mem_cons_self
    have hb1r : 0 ≤ b1 ∧ b1 ≤ 255 := by
      rw [hb1]; match rest with
      | [] => simp [rd]
      | [x] => simp [rd]
      | x :: y :: t => exact HRB.out y (by simp)
    have hone : rest.length = 1 → b0 ≠ 255 := by
      intro h e
      obtain ⟨x, rfl⟩ := List.length_eq_one_iff.1 h
      exact hend (.inr (by rw [← e, hb0]; rfl))
    rw [← hb0] at hx0
    have hR3 : R = if m = 254 then (true, 0, 0, at_ + 2, l) else if badM m l then (false, 4, (at_ : Int), at_, l) else if l.length = 300 then (false, 6, (at_ : Int), at_, l)
        else if m = 0 then (if 20000 < (un rest).1.length then (false, 5, (at_ : Int), at_, l) else (false, 0, 0, at_ + (un rest).2, l ++ [⟨0, (un rest).1⟩]))
        else if isRest m then (false, 0, 0, at_ + 2, l ++ [⟨m, []⟩]) else if rest.length < 4 then (false, 3, (b.length : Int), at_, l) else if 20000 < lenM rest then (false, 5, (at_ : Int), at_, l)
        else if (rest.length : Int) < 4 + lenM rest then (false, 3, (b.length : Int), at_, l) else (false, 0, 0, at_ + 4 + (lenM rest).toNat, l ++ [⟨m, (rest.drop 4).take (lenM rest).toNat⟩]) := by
      rw [HRR.out, nxt, ← HREST.out, if_neg hend, ← hm]
    have HR3 := Aside0.mk hR3
    have HB1E := Aside0.mk hb1
    have hmr : 0 ≤ m ∧ m ≤ 255 := by rw [hm2]; split <;> omega
    have HE2 := Aside0.mk (show ¬ (¬ (rest = [] ∨ rest = [255]) ∧ m ≠ 254 ∧ badM m l = false ∧ l.length ≠ 300) from by rw [hm, HREST.out]; exact HE.out)
    have HM2 := Aside0.mk hm2
    have HMM := Aside0.mk hm
    have HEND := Aside0.mk hend
    clear hx1 hb0 hb1 hm hm2 hR3 hend hne HRR
    go_cut [6] from 11 (fun v6 wx => v6 = .int .i64 m ∧ wx = W2)
    case first =>

      have z0 : ((rest.length : Int) == 0) = false := by rw [beq_eq_false_iff_ne]; omega
      by_cases h255 : b0 = 255
      · have h1 : 1 < rest.length := by
          rcases Nat.lt_or_ge 1 rest.length with h | h
          · exact h
          · exact absurd h255 (hone (by omega))
        have z1 : ((rest.length : Int) == 1) = false := by rw [beq_eq_false_iff_ne]; omega
        have hx1 := HX1.out h1
        rw [← show b1 = rd rest 1 from HB1E.out] at hx1
        subst h255
        by_cases hz : b1 = 0
        · subst hz
          have hmz : m = 0 := by rw [HM2.out]; simp
          subst hmz
          go_wp2
          go_meet
          case rel => exact ⟨rfl, rfl⟩
        · have hmz : m = b1 := by rw [HM2.out]; simp [hz]
          subst hmz
          go_wp2
          go_meet
          case rel => exact ⟨by first | rfl | (congr 1; omega), rfl⟩
      · have hmz : m = 0 := by rw [HM2.out]; simp [h255]
        subst hmz
        have z2 : (b0 == 255) = false := by simp [h255]
        by_cases h1 : rest.length = 1
        · have z1 : ((rest.length : Int) == 1) = true := by simp [h1]
          clear h1
          go_wp2
          go_meet
          case rel => exact ⟨rfl, rfl⟩
        · have z1 : ((rest.length : Int) == 1) = false := by rw [beq_eq_false_iff_ne]; omega
          go_wp2
          go_meet
          case rel => exact ⟨rfl, rfl⟩

    case rest =>
      obtain ⟨rfl, rfl⟩ := hcut
      by_cases h254 : m = 254
      · have hRe : R = (true, 0, 0, at_ + 2, l) := by rw [HR3.out, if_pos h254]
        subst hRe
        subst h254
        have fg1 : wc.frozen? ⟨g, 1, none⟩ = false := by obtain ⟨_, v, h2, _⟩ := HSG.out; exact blk_frozen h2 1
        go_wp2
        have hsg2 := HSG.out.at_ hg hqg (at_ + 2)
        have hr2 := blk_far HR2.out (p := ⟨g, 1, none⟩) (fun e => hgr e.symm) (.int .i64 ((at_ + 2 : Nat) : Int))
        obtain ⟨e1_, e2_⟩ := SegK.fin hsg2 hr2 hgr hqr hgw (.int .i64 0) (.int .i64 0)
        refine bodyPost_ret (results_list (rs := [.tmp 2, .cell 3 65]) rfl (by simp) (.tmp (.cell gr 65 #[.int .i64 0, .int .i64 0] (0, 0) _ rfl (by exact e2_) Try.underlying65 rfl (by kernel_rfl) .nil))) rfl ?_
        exact ⟨rfl, by first | exact e1_.drew | exact e1_⟩
      · have hz254 : (m == 254) = false := by simp [h254]
        obtain ⟨_, v2, hk2, hs2, _⟩ := HSG.out
        obtain ⟨Al2, cl2, e2⟩ := Kd.S_slice hs2
        subst e2
        have j2 := blk_cell hk2 2
        simp at j2
        have HSR := Kd.S_reads' hs2
        have HSC := Aside0.mk HSR.2.2
        have HSL := Aside0.mk HSR.2.1
        have HK2 := Aside0.mk hk2
        have HS2 := Aside0.mk hs2
        have HMR := Aside0.mk (mayRun_val l hl)
        have HMS := Aside0.mk (mayRest_val l hl)
        have HIR := Aside0.mk (isRest_val m)
        clear hk2 hs2 HSR
        have hR4 : R = if badM m l then (false, 4, (at_ : Int), at_, l) else if l.length = 300 then (false, 6, (at_ : Int), at_, l)
            else if m = 0 then (if 20000 < (un rest).1.length then (false, 5, (at_ : Int), at_, l) else (false, 0, 0, at_ + (un rest).2, l ++ [⟨0, (un rest).1⟩]))
            else if isRest m then (false, 0, 0, at_ + 2, l ++ [⟨m, []⟩]) else if rest.length < 4 then (false, 3, (b.length : Int), at_, l) else if 20000 < lenM rest then (false, 5, (at_ : Int), at_, l)
            else if (rest.length : Int) < 4 + lenM rest then (false, 3, (b.length : Int), at_, l) else (false, 0, 0, at_ + 4 + (lenM rest).toNat, l ++ [⟨m, (rest.drop 4).take (lenM rest).toNat⟩]) := by
          rw [HR3.out, if_neg h254]
        have HR4 := Aside0.mk hR4
        clear hR4 HR3
        go_upto_block 1 with (fail)
        go_cut [] from 11 (fun wx => Aside0 (SegK w0 wx g gq A c b at_ l) ∧ Aside0 (wx.heap[gr]? = some (.cells #[.int .i64 0, .int .i64 0] 65 (0, 0))) ∧ Aside0 (badM m l = false) ∧ l.length ≠ 300)
        case first =>

          by_cases h247 : 247 < m
          · have hbad : badM m l = true := by simp [badM, h247]
            have hRe : R = (false, 4, (at_ : Int), at_, l) := by rw [HR4.out, if_pos hbad]
            subst hRe
            clear hbad
            go_wp2
            obtain ⟨e1_, e2_⟩ := SegK.fin HSG.out HR2.out hgr hqr hgw (.int .i64 4) (.int .i64 at_)
            refine bodyPost_ret (results_list (rs := [.tmp 2, .cell 3 65]) rfl (by simp) (.tmp (.cell gr 65 #[.int .i64 4, .int .i64 at_] (0, 0) _ rfl (by exact e2_) Try.underlying65 rfl (by kernel_rfl) .nil))) rfl ?_
            exact ⟨rfl, by first | exact e1_.drew | exact e1_⟩
          · by_cases hm0 : m = 0
            · subst hm0
              cases hmr : mayRunM l with
              | false =>
                have hbad : badM 0 l = true := by simp [badM, hmr]
                have hRe : R = (false, 4, (at_ : Int), at_, l) := by rw [HR4.out, if_pos hbad]
                subst hRe
                rw [hmr] at HMR
                clear hbad hmr
                go_wp2_with fail
                refine (impl_mayRun.calls Al2 cl2 l false _ (Kd.C_drewN HSC.out 0) HSL.out HMR.out).mono ?_
                rintro e_ w_ ⟨rfl, ⟨n1, rfl⟩⟩
                go_wp2
                obtain ⟨e1_, e2_⟩ := SegK.fin (HSG.out.drewN (n1)) (show (wc.drewN (n1)).heap[gr]? = some (.cells #[.int .i64 0, .int .i64 0] 65 (0, 0)) from HR2.out) hgr hqr hgw (.int .i64 4) (.int .i64 at_)
                refine bodyPost_ret (results_list (rs := [.tmp 2, .cell 3 65]) rfl (by simp) (.tmp (.cell gr 65 #[.int .i64 4, .int .i64 at_] (0, 0) _ rfl (by exact e2_) Try.underlying65 rfl (by kernel_rfl) .nil))) rfl ?_
                exact ⟨rfl, by first | exact e1_.drew | exact e1_⟩
              | true =>
                have hbad : badM 0 l = false := by simp [badM, hmr, isRest]
                have HBAD := Aside0.mk hbad
                have hir0 : isRest 0 = false := by decide
                rw [hmr] at HMR
                rw [hir0] at HIR
                clear hbad hmr hir0
                go_wp2_with fail
                refine (impl_mayRun.calls Al2 cl2 l true _ (Kd.C_drewN HSC.out 0) HSL.out HMR.out).mono ?_
                rintro e_ w_ ⟨rfl, ⟨n1, rfl⟩⟩
                go_wp2_with fail
                refine (impl_isRestart.calls 0 false _ HIR.out).mono ?_
                rintro e_ w_ ⟨rfl, ⟨n2, rfl⟩⟩
                by_cases h300 : l.length = 300
                · have hRe : R = (false, 6, (at_ : Int), at_, l) := by rw [HR4.out, HBAD.out, if_neg (by decide), if_pos h300]
                  subst hRe
                  have h3b : ((l.length : Int) == 300) = true := by rw [beq_iff_eq]; omega
                  clear h300
                  go_wp2
                  obtain ⟨e1_, e2_⟩ := SegK.fin (HSG.out.drewN (n1 + n2)) (show (wc.drewN (n1 + n2)).heap[gr]? = some (.cells #[.int .i64 0, .int .i64 0] 65 (0, 0)) from HR2.out) hgr hqr hgw (.int .i64 6) (.int .i64 at_)
                  refine bodyPost_ret (results_list (rs := [.tmp 2, .cell 3 65]) rfl (by simp) (.tmp (.cell gr 65 #[.int .i64 6, .int .i64 at_] (0, 0) _ rfl (by exact e2_) Try.underlying65 rfl (by kernel_rfl) .nil))) rfl ?_
                  exact ⟨rfl, by first | exact e1_.drew | exact e1_⟩
                · have h3b : ((l.length : Int) == 300) = false := by rw [beq_eq_false_iff_ne]; omega
                  go_wp2
                  go_meet
                  case rel => exact ⟨⟨HSG.out.drewN _⟩, ⟨HR2.out⟩, HBAD, h300⟩
            · have hm0b : (m == 0) = false := by simp [hm0]
              cases hir : isRest m with
              | false =>
                have hbad : badM m l = false := by simp [badM, h247, hm0, hir]
                have HBAD := Aside0.mk hbad
                rw [hir] at HIR
                clear hbad hir
                go_wp2_with fail
                refine (impl_isRestart.calls m false _ HIR.out).mono ?_
                rintro e_ w_ ⟨rfl, ⟨n2, rfl⟩⟩
                by_cases h300 : l.length = 300
                · have hRe : R = (false, 6, (at_ : Int), at_, l) := by rw [HR4.out, HBAD.out, if_neg (by decide), if_pos h300]
                  subst hRe
                  have h3b : ((l.length : Int) == 300) = true := by rw [beq_iff_eq]; omega
                  clear h300
                  go_wp2
                  obtain ⟨e1_, e2_⟩ := SegK.fin (HSG.out.drewN (n2)) (show (wc.drewN (n2)).heap[gr]? = some (.cells #[.int .i64 0, .int .i64 0] 65 (0, 0)) from HR2.out) hgr hqr hgw (.int .i64 6) (.int .i64 at_)
                  refine bodyPost_ret (results_list (rs := [.tmp 2, .cell 3 65]) rfl (by simp) (.tmp (.cell gr 65 #[.int .i64 6, .int .i64 at_] (0, 0) _ rfl (by exact e2_) Try.underlying65 rfl (by kernel_rfl) .nil))) rfl ?_
                  exact ⟨rfl, by first | exact e1_.drew | exact e1_⟩
                · have h3b : ((l.length : Int) == 300) = false := by rw [beq_eq_false_iff_ne]; omega
                  go_wp2
                  go_meet
                  case rel => exact ⟨⟨HSG.out.drewN _⟩, ⟨HR2.out⟩, HBAD, h300⟩
              | true =>
                cases hmr : mayRestM l with
                | false =>
                  have hbad : badM m l = true := by simp [badM, hir, hmr]
                  have hRe : R = (false, 4, (at_ : Int), at_, l) := by rw [HR4.out, if_pos hbad]
                  subst hRe
                  rw [hir] at HIR
                  rw [hmr] at HMS
                  clear hbad hir hmr
                  go_wp2_with fail
                  refine (impl_isRestart.calls m true _ HIR.out).mono ?_
                  rintro e_ w_ ⟨rfl, ⟨n2, rfl⟩⟩
                  go_wp2_with fail
                  refine (impl_mayRestart.calls Al2 cl2 l false _ (Kd.C_drewN HSC.out _) HSL.out HMS.out).mono ?_
                  rintro e_ w_ ⟨rfl, ⟨n3, rfl⟩⟩
                  go_wp2
                  obtain ⟨e1_, e2_⟩ := SegK.fin (HSG.out.drewN (n2 + n3)) (show (wc.drewN (n2 + n3)).heap[gr]? = some (.cells #[.int .i64 0, .int .i64 0] 65 (0, 0)) from HR2.out) hgr hqr hgw (.int .i64 4) (.int .i64 at_)
                  refine bodyPost_ret (results_list (rs := [.tmp 2, .cell 3 65]) rfl (by simp) (.tmp (.cell gr 65 #[.int .i64 4, .int .i64 at_] (0, 0) _ rfl (by exact e2_) Try.underlying65 rfl (by kernel_rfl) .nil))) rfl ?_
                  exact ⟨rfl, by first | exact e1_.drew | exact e1_⟩
                | true =>
                  have hbad : badM m l = false := by simp [badM, h247, hm0, hmr]
                  have HBAD := Aside0.mk hbad
                  rw [hir] at HIR
                  rw [hmr] at HMS
                  clear hbad hir hmr
                  go_wp2_with fail
                  refine (impl_isRestart.calls m true _ HIR.out).mono ?_
                  rintro e_ w_ ⟨rfl, ⟨n2, rfl⟩⟩
                  go_wp2_with fail
                  refine (impl_mayRestart.calls Al2 cl2 l true _ (Kd.C_drewN HSC.out _) HSL.out HMS.out).mono ?_
                  rintro e_ w_ ⟨rfl, ⟨n3, rfl⟩⟩
                  by_cases h300 : l.length = 300
                  · have hRe : R = (false, 6, (at_ : Int), at_, l) := by rw [HR4.out, HBAD.out, if_neg (by decide), if_pos h300]
                    subst hRe
                    have h3b : ((l.length : Int) == 300) = true := by rw [beq_iff_eq]; omega
                    clear h300
                    go_wp2
                    obtain ⟨e1_, e2_⟩ := SegK.fin (HSG.out.drewN (n2 + n3)) (show (wc.drewN (n2 + n3)).heap[gr]? = some (.cells #[.int .i64 0, .int .i64 0] 65 (0, 0)) from HR2.out) hgr hqr hgw (.int .i64 6) (.int .i64 at_)
                    refine bodyPost_ret (results_list (rs := [.tmp 2, .cell 3 65]) rfl (by simp) (.tmp (.cell gr 65 #[.int .i64 6, .int .i64 at_] (0, 0) _ rfl (by exact e2_) Try.underlying65 rfl (by kernel_rfl) .nil))) rfl ?_
                    exact ⟨rfl, by first | exact e1_.drew | exact e1_⟩
                  · have h3b : ((l.length : Int) == 300) = false := by rw [beq_eq_false_iff_ne]; omega
                    go_wp2
                    go_meet
                    case rel => exact ⟨⟨HSG.out.drewN _⟩, ⟨HR2.out⟩, HBAD, h300⟩

        case rest =>
          obtain ⟨HSG3, HRF, HBAD, h300⟩ := hcut
          exact absurd ⟨HEND.out, h254, HBAD.out, h300⟩ HE2.out
set_option maxRecDepth 100000 in
set_option maxHeartbeats 4000000 in
theorem next_calls_b1 (w0 W : World) (g gq : Nat) (A : Option Addr) (c : Nat) (b : List Int) (at_ : Nat) (l : List S131) (h : SegK w0 W g gq A c b at_ l) (hg : w0.heap.size ≤ g) (hqg : gq ≠ g) (hC : Kd.C (Kd.int .u8) w0 A b.length b) (hc : b.length ≤ c) (hat : at_ ≤ b.length) (hlen : b.length ≤ 60000) (hB : ∀ x ∈ b, 0 ≤ x ∧ x ≤ 255) (hl : l.length ≤ 300) (hE : (¬ (b.drop at_ = [] ∨ b.drop at_ = [255]) ∧ markM (b.drop at_) ≠ 254 ∧ badM (markM (b.drop at_)) l = false ∧ l.length ≠ 300)) (hK : markM (b.drop at_) = 0) :
    Calls Try.prog 133 #[.pointer (some ⟨g, 0, none⟩)] W fun e w' => e = .returned (.tuple #[.bool (nxt b at_ l).1, .agg #[.int .i64 (nxt b at_ l).2.1, .int .i64 (nxt b at_ l).2.2.1]]) ∧ SegK w0 w' g gq A c b (nxt b at_ l).2.2.2.1 (nxt b at_ l).2.2.2.2 := by
  obtain ⟨hbel, v, hk, hS, hq⟩ := h
  have HQ := Aside0.mk hq
  have k0 := blk_cell hk 0
  have k1 := blk_cell hk 1
  have k2 := blk_cell hk 2
  simp at k0 k1 k2
  obtain ⟨Al, cl, el⟩ := Kd.S_slice hS
  subst el
  have HBEL := Aside0.mk hbel
  have HK := Aside0.mk hk
  have HS := Aside0.mk hS
  have HCB := Aside0.mk hC
  have HCC := Aside0.mk hc
  have HBB := Aside0.mk hB
  have hatc : at_ ≤ c := by omega
  have HE := Aside0.mk hE
  have HKK := Aside0.mk hK
  clear hE hK
  clear hbel hk hS hC hB hq
  obtain ⟨R, hR⟩ : ∃ R, R = nxt b at_ l := ⟨_, rfl⟩
  rw [← hR]
  have HRR := Aside0.mk hR
  clear hR
  go_enter Try.func133, Try.ntmps133
  go_upto_region 1 with (fail)
  have hr := blk_new W (Obj.cells #[.int .i64 0, .int .i64 0] 65)
  have HK1 := Aside0.mk (blk_alloc HK.out (Obj.cells #[.int .i64 0, .int .i64 0] 65))
  have HS1 := Aside0.mk (Kd.S_alloc HS.out (Obj.cells #[.int .i64 0, .int .i64 0] 65))
  have HB1 := Aside0.mk (below_alloc HBEL.out (Obj.cells #[.int .i64 0, .int .i64 0] 65))
  have hgr : g ≠ W.heap.size := by have := blk_lt HK.out; omega
  have hqr : gq ≠ W.heap.size := by have := blk_lt HQ.out; omega
  have HQ1 := Aside0.mk (blk_alloc HQ.out (Obj.cells #[.int .i64 0, .int .i64 0] 65))
  have hgw : w0.heap.size ≤ W.heap.size := HBEL.out.size
  generalize W.heap.size = gr at hr hgr hqr hgw ⊢
  generalize W.alloc (Obj.cells #[.int .i64 0, .int .i64 0] 65) = W1 at hr HK1 HS1 HB1 HQ1 ⊢
  clear k0 k1 k2 HK HS HBEL HQ
  have k0 := blk_cell HK1.out 0
  have k1 := blk_cell HK1.out 1
  have k2 := blk_cell HK1.out 2
  simp at k0 k1 k2
  have HR := Aside0.mk hr
  clear hr
  go_wp2
  go_quiet (fail)
  go_upto_block 0 with (fail)
  obtain ⟨rest, hrest⟩ : ∃ rest, rest = b.drop at_ := ⟨_, rfl⟩
  have hrl : b.length - at_ = rest.length := by rw [hrest, List.length_drop]
  have hrc : Kd.C (Kd.int .u8) w0 (if c = at_ then A else A.map (·.add at_)) rest.length rest := by
    have h9 := Kd.C_drop HCB.out hat HCC.out
    rw [show (Kd.int IntKind.u8).sz = 1 from rfl] at h9
    simp only [Nat.mul_one] at h9
    rw [hrest]
    exact h9
  rw [hrl]
  generalize (if c = at_ then A else Option.map (fun x => x.add at_) A) = Ar at hrc ⊢
  have hrcc : rest.length ≤ c - at_ := by rw [← hrl]; omega
  have HRC := Aside0.mk hrc
  have HRCC := Aside0.mk hrcc
  have HREST := Aside0.mk hrest
  have HRL := Aside0.mk hrl
  have HRB := Aside0.mk (show ∀ x ∈ rest, 0 ≤ x ∧ x ≤ 255 from fun x hx => HBB.out x (by rw [hrest] at hx; exact List.mem_of_mem_drop hx))
  have HSG : Aside0 (SegK w0 (W1.drewN nq) g gq A c b at_ l) := ⟨pw_below_drewN HB1.out nq, _, HK1.out, Kd.S_drewN HS1.out nq, HQ1.out⟩
  have HR2 : Aside0 ((W1.drewN nq).heap[gr]? = some (.cells #[.int .i64 0, .int .i64 0] 65 (0, 0))) := ⟨HR.out⟩
  have HRC1 := Aside0.mk (Kd.C_below hrc HSG.out.1)
  generalize hcr : c - at_ = cr at HRCC ⊢
  generalize W1.drewN nq = W2 at HSG HR2 HRC1 ⊢
  clear hrest hrl hrc hrcc HK1 HS1 HB1 HQ1 HR k0 k1 k2 hcr
  have j0 : W2.cell? ⟨g, 0, none⟩ = some (.slice A b.length c) := by obtain ⟨_, v, h2, _⟩ := HSG.out; exact blk_cell h2 0
  have j1 : W2.cell? ⟨g, 1, none⟩ = some (.int .i64 (at_ : Int)) := by obtain ⟨_, v, h2, _⟩ := HSG.out; exact blk_cell h2 1
  have r0 : W2.cell? ⟨gr, 0, none⟩ = some (.int .i64 0) := blk_cell HR2.out 0
  have r1 : W2.cell? ⟨gr, 1, none⟩ = some (.int .i64 0) := blk_cell HR2.out 1
  have f0 : W2.frozen? ⟨gr, 0, none⟩ = false := blk_frozen HR2.out 0
  have f1 : W2.frozen? ⟨gr, 1, none⟩ = false := blk_frozen HR2.out 1
  by_cases hend : rest = [] ∨ rest = [255]
  · exact absurd hend (by rw [HREST.out]; exact HE.out.1)
  · have hne : rest ≠ [] := fun e => hend (.inl e)
    have hlr : 0 < rest.length := List.length_pos_iff.2 hne
    obtain ⟨ad, q1, hx0⟩ := Kd.at_int HRC1.out 0 (by omega) (by omega)
    cases q1
    rw [show (0 : Int).toNat = 0 from rfl, Addr.add_zero'] at hx0
    have hx1 : 1 < rest.length → W2.cell? ⟨ad.block, ad.off + 1, none⟩ = some (.int .u8 (rd rest 1)) := fun h => by
      obtain ⟨ad', q2, hx⟩ := Kd.at_int HRC1.out 1 (by omega) (by omega)
      cases q2
      have e := add_field ad 0 1 (by omega)
      rw [Nat.zero_add, Addr.add_zero'] at e
      rw [show (1 : Int).toNat = 1 from rfl, e] at hx
      exact hx
    have HX1 := Aside0.mk hx1
    obtain ⟨b0, hb0⟩ : ∃ b0, b0 = rd rest 0 := ⟨_, rfl⟩
    obtain ⟨b1, hb1⟩ : ∃ b1, b1 = rd rest 1 := ⟨_, rfl⟩
    obtain ⟨m, hm⟩ : ∃ m, m = markM rest := ⟨_, rfl⟩
    have hm2 : m = if b0 ≠ 255 ∨ b1 = 0 then 0 else b1 := by rw [hm, markM, hb0, hb1]
    have hb0r : 0 ≤ b0 ∧ b0 ≤ 255 := by
      rw [hb0]; cases rest with
      | nil => simp at hlr
      | cons x t => exact HRB.out x List.mem_cons_self
    have hb1r : 0 ≤ b1 ∧ b1 ≤ 255 := by
      rw [hb1]; match rest with
      | [] => simp [rd]
      | [x] => simp [rd]
      | x :: y :: t => exact HRB.out y (by simp)
    have hone : rest.length = 1 → b0 ≠ 255 := by
      intro h e
      obtain ⟨x, rfl⟩ := List.length_eq_one_iff.1 h
      exact hend (.inr (by rw [← e, hb0]; rfl))
    rw [← hb0] at hx0
    have hR3 : R = if m = 254 then (true, 0, 0, at_ + 2, l) else if badM m l then (false, 4, (at_ : Int), at_, l) else if l.length = 300 then (false, 6, (at_ : Int), at_, l)
        else if m = 0 then (if 20000 < (un rest).1.length then (false, 5, (at_ : Int), at_, l) else (false, 0, 0, at_ + (un rest).2, l ++ [⟨0, (un rest).1⟩]))
        else if isRest m then (false, 0, 0, at_ + 2, l ++ [⟨m, []⟩]) else if rest.length < 4 then (false, 3, (b.length : Int), at_, l) else if 20000 < lenM rest then (false, 5, (at_ : Int), at_, l)
        else if (rest.length : Int) < 4 + lenM rest then (false, 3, (b.length : Int), at_, l) else (false, 0, 0, at_ + 4 + (lenM rest).toNat, l ++ [⟨m, (rest.drop 4).take (lenM rest).toNat⟩]) := by
      rw [HRR.out, nxt, ← HREST.out, if_neg hend, ← hm]
    have HR3 := Aside0.mk hR3
    have HB1E := Aside0.mk hb1
    have hmr : 0 ≤ m ∧ m ≤ 255 := by rw [hm2]; split <;> omega
    have HE2 := Aside0.mk (show (¬ (rest = [] ∨ rest = [255]) ∧ m ≠ 254 ∧ badM m l = false ∧ l.length ≠ 300) from by rw [hm, HREST.out]; exact HE.out)
    have HKM := Aside0.mk (show m = 0 from by rw [hm, HREST.out]; exact HKK.out)
    have HM2 := Aside0.mk hm2
    have HMM := Aside0.mk hm
    have HEND := Aside0.mk hend
    clear hx1 hb0 hb1 hm hm2 hR3 hend hne HRR
    go_cut [6] from 11 (fun v6 wx => v6 = .int .i64 m ∧ wx = W2)
    case first =>

      have z0 : ((rest.length : Int) == 0) = false := by rw [beq_eq_false_iff_ne]; omega
      by_cases h255 : b0 = 255
      · have h1 : 1 < rest.length := by
          rcases Nat.lt_or_ge 1 rest.length with h | h
          · exact h
          · exact absurd h255 (hone (by omega))
        have z1 : ((rest.length : Int) == 1) = false := by rw [beq_eq_false_iff_ne]; omega
        have hx1 := HX1.out h1
        rw [← show b1 = rd rest 1 from HB1E.out] at hx1
        subst h255
        by_cases hz : b1 = 0
        · subst hz
          have hmz : m = 0 := by rw [HM2.out]; simp
          subst hmz
          go_wp2
          go_meet
          case rel => exact ⟨rfl, rfl⟩
        · have hmz : m = b1 := by rw [HM2.out]; simp [hz]
          subst hmz
          go_wp2
          go_meet
          case rel => exact ⟨by first | rfl | (congr 1; omega), rfl⟩
      · have hmz : m = 0 := by rw [HM2.out]; simp [h255]
        subst hmz
        have z2 : (b0 == 255) = false := by simp [h255]
        by_cases h1 : rest.length = 1
        · have z1 : ((rest.length : Int) == 1) = true := by simp [h1]
          clear h1
          go_wp2
          go_meet
          case rel => exact ⟨rfl, rfl⟩
        · have z1 : ((rest.length : Int) == 1) = false := by rw [beq_eq_false_iff_ne]; omega
          go_wp2
          go_meet
          case rel => exact ⟨rfl, rfl⟩

    case rest =>
      obtain ⟨rfl, rfl⟩ := hcut
      by_cases h254 : m = 254
      · exact absurd h254 HE2.out.2.1
      · have hz254 : (m == 254) = false := by simp [h254]
        obtain ⟨_, v2, hk2, hs2, _⟩ := HSG.out
        obtain ⟨Al2, cl2, e2⟩ := Kd.S_slice hs2
        subst e2
        have j2 := blk_cell hk2 2
        simp at j2
        have HSR := Kd.S_reads' hs2
        have HSC := Aside0.mk HSR.2.2
        have HSL := Aside0.mk HSR.2.1
        have HK2 := Aside0.mk hk2
        have HS2 := Aside0.mk hs2
        have HMR := Aside0.mk (mayRun_val l hl)
        have HMS := Aside0.mk (mayRest_val l hl)
        have HIR := Aside0.mk (isRest_val m)
        clear hk2 hs2 HSR
        have hR4 : R = if badM m l then (false, 4, (at_ : Int), at_, l) else if l.length = 300 then (false, 6, (at_ : Int), at_, l)
            else if m = 0 then (if 20000 < (un rest).1.length then (false, 5, (at_ : Int), at_, l) else (false, 0, 0, at_ + (un rest).2, l ++ [⟨0, (un rest).1⟩]))
            else if isRest m then (false, 0, 0, at_ + 2, l ++ [⟨m, []⟩]) else if rest.length < 4 then (false, 3, (b.length : Int), at_, l) else if 20000 < lenM rest then (false, 5, (at_ : Int), at_, l)
            else if (rest.length : Int) < 4 + lenM rest then (false, 3, (b.length : Int), at_, l) else (false, 0, 0, at_ + 4 + (lenM rest).toNat, l ++ [⟨m, (rest.drop 4).take (lenM rest).toNat⟩]) := by
          rw [HR3.out, if_neg h254]
        have HR4 := Aside0.mk hR4
        clear hR4 HR3
        go_upto_block 1 with (fail)
        go_cut [] from 11 (fun wx => Aside0 (SegK w0 wx g gq A c b at_ l) ∧ Aside0 (wx.heap[gr]? = some (.cells #[.int .i64 0, .int .i64 0] 65 (0, 0))) ∧ Aside0 (badM m l = false) ∧ l.length ≠ 300)
        case first =>

          by_cases h247 : 247 < m
          · exact absurd HE2.out.2.2.1 (by simp [badM, h247])
          · by_cases hm0 : m = 0
            · subst hm0
              cases hmr : mayRunM l with
              | false =>
                exact absurd HE2.out.2.2.1 (by simp [badM, hmr])
              | true =>
                have hbad : badM 0 l = false := by simp [badM, hmr, isRest]
                have HBAD := Aside0.mk hbad
                have hir0 : isRest 0 = false := by decide
                rw [hmr] at HMR
                rw [hir0] at HIR
                clear hbad hmr hir0
                go_wp2_with fail
                refine (impl_mayRun.calls Al2 cl2 l true _ (Kd.C_drewN HSC.out 0) HSL.out HMR.out).mono ?_
                rintro e_ w_ ⟨rfl, ⟨n1, rfl⟩⟩
                go_wp2_with fail
                refine (impl_isRestart.calls 0 false _ HIR.out).mono ?_
                rintro e_ w_ ⟨rfl, ⟨n2, rfl⟩⟩
                by_cases h300 : l.length = 300
                · exact absurd h300 HE2.out.2.2.2
                · have h3b : ((l.length : Int) == 300) = false := by rw [beq_eq_false_iff_ne]; omega
                  go_wp2
                  go_meet
                  case rel => exact ⟨⟨HSG.out.drewN _⟩, ⟨HR2.out⟩, HBAD, h300⟩
            · have hm0b : (m == 0) = false := by simp [hm0]
              cases hir : isRest m with
              | false =>
                have hbad : badM m l = false := by simp [badM, h247, hm0, hir]
                have HBAD := Aside0.mk hbad
                rw [hir] at HIR
                clear hbad hir
                go_wp2_with fail
                refine (impl_isRestart.calls m false _ HIR.out).mono ?_
                rintro e_ w_ ⟨rfl, ⟨n2, rfl⟩⟩
                by_cases h300 : l.length = 300
                · exact absurd h300 HE2.out.2.2.2
                · have h3b : ((l.length : Int) == 300) = false := by rw [beq_eq_false_iff_ne]; omega
                  go_wp2
                  go_meet
                  case rel => exact ⟨⟨HSG.out.drewN _⟩, ⟨HR2.out⟩, HBAD, h300⟩
              | true =>
                cases hmr : mayRestM l with
                | false =>
                  exact absurd HE2.out.2.2.1 (by simp [badM, hir, hmr])
                | true =>
                  have hbad : badM m l = false := by simp [badM, h247, hm0, hmr]
                  have HBAD := Aside0.mk hbad
                  rw [hir] at HIR
                  rw [hmr] at HMS
                  clear hbad hir hmr
                  go_wp2_with fail
                  refine (impl_isRestart.calls m true _ HIR.out).mono ?_
                  rintro e_ w_ ⟨rfl, ⟨n2, rfl⟩⟩
                  go_wp2_with fail
                  refine (impl_mayRestart.calls Al2 cl2 l true _ (Kd.C_drewN HSC.out _) HSL.out HMS.out).mono ?_
                  rintro e_ w_ ⟨rfl, ⟨n3, rfl⟩⟩
                  by_cases h300 : l.length = 300
                  · exact absurd h300 HE2.out.2.2.2
                  · have h3b : ((l.length : Int) == 300) = false := by rw [beq_eq_false_iff_ne]; omega
                    go_wp2
                    go_meet
                    case rel => exact ⟨⟨HSG.out.drewN _⟩, ⟨HR2.out⟩, HBAD, h300⟩

        case rest =>
          obtain ⟨HSG3, HRF, HBAD, h300⟩ := hcut
          have hR5 : R = if m = 0 then (if 20000 < (un rest).1.length then (false, 5, (at_ : Int), at_, l) else (false, 0, 0, at_ + (un rest).2, l ++ [⟨0, (un rest).1⟩]))
              else if isRest m then (false, 0, 0, at_ + 2, l ++ [⟨m, []⟩]) else if rest.length < 4 then (false, 3, (b.length : Int), at_, l) else if 20000 < lenM rest then (false, 5, (at_ : Int), at_, l)
              else if (rest.length : Int) < 4 + lenM rest then (false, 3, (b.length : Int), at_, l) else (false, 0, 0, at_ + 4 + (lenM rest).toNat, l ++ [⟨m, (rest.drop 4).take (lenM rest).toNat⟩]) := by
            rw [HR4.out, HBAD.out, if_neg (by decide), if_neg h300]
          have HR5 := Aside0.mk hR5
          clear hR5 HR4 HSG HR2 HRC1 j0 j1 r0 r1 f0 f1 hx0 j2 HSC HSL HK2 HS2 HMR HMS hz254
          go_upto_block 2 with (fail)
          obtain ⟨hb3, v3, hk3, hs3, hq3⟩ := HSG3.out
          obtain ⟨Al3, cl3, e3⟩ := Kd.S_slice hs3
          subst e3
          have kb := blk_new wc (Obj.cells #[.int .i64 m, .slice none 0 0] 131)
          have KG := Aside0.mk (blk_alloc hk3 (Obj.cells #[.int .i64 m, .slice none 0 0] 131))
          have KQ := Aside0.mk (blk_alloc hq3 (Obj.cells #[.int .i64 m, .slice none 0 0] 131))
          have hsq : gq < wc.heap.size := blk_lt hq3
          have KR := Aside0.mk (blk_alloc HRF.out (Obj.cells #[.int .i64 m, .slice none 0 0] 131))
          have HB6 := Aside0.mk (below_alloc hb3 (Obj.cells #[.int .i64 m, .slice none 0 0] 131))
          have HS6 := Aside0.mk (Kd.S_mono (ok' := fun k => k < wc.heap.size) (Kd.S_alloc (Kd.S_bound hs3) (Obj.cells #[.int .i64 m, .slice none 0 0] 131)) (fun k hk => hk.2.2.1))
          have hsg : g < wc.heap.size := blk_lt hk3
          have hsr : gr < wc.heap.size := blk_lt HRF.out
          have hs0 : w0.heap.size ≤ wc.heap.size := hb3.size
          have hW6s : (wc.alloc (Obj.cells #[.int .i64 m, .slice none 0 0] 131)).heap.size = wc.heap.size + 1 := World.size_alloc ..
          have HRC6 := Aside0.mk (Kd.C_below HRC.out HB6.out)
          generalize wc.heap.size = gs at kb HS6 hsg hsr hsq hs0 hW6s ⊢
          generalize wc.alloc (Obj.cells #[.int .i64 m, .slice none 0 0] 131) = W6 at kb KG KR KQ HB6 HS6 hW6s HRC6 ⊢
          have KB := Aside0.mk kb
          have HW6 := Aside0.mk hW6s
          clear hb3 hk3 hs3 hq3 HSG3 HRF kb hW6s
          go_cut [] from 11 (fun wx => ∃ (n2 : Nat) (d : List Int) (vd : Value), Aside0 (R = (false, 0, 0, n2, l ++ [⟨m, d⟩])) ∧ Aside0 (wx.heap[gs]? = some (.cells #[.int .i64 m, vd] 131 (0, 0))) ∧ Aside0 (wx.heap[g]? = some (.cells #[.slice A b.length c, .int .i64 (n2 : Int), .slice Al3 l.length cl3] 136 (0, 0))) ∧ Aside0 (wx.heap[gr]? = some (.cells #[.int .i64 0, .int .i64 0] 65 (0, 0))) ∧ Aside0 (wx.heap[gq]? = some (.cells #[.int .i64 0, .int .i64 0] 65 (0, 0))) ∧
            Aside0 (Below w0.heap.size w0 wx) ∧ Aside0 (Kd.S k131 131 wx w0.heap.size (fun k => k < gs) (.slice Al3 l.length cl3) l) ∧ Aside0 (Kd.R (Kd.int .u8) 5 wx w0.heap.size (fun k => gs < k) vd d))
          case first =>

            have s0 := blk_cell KG.out 0
            have s1 := blk_cell KG.out 1
            simp at s0 s1
            have t0 := blk_cell KR.out 0
            have t1 := blk_cell KR.out 1
            simp at t0 t1
            have q0 := blk_frozen KR.out 0
            have q1 := blk_frozen KR.out 1
            have q2 := blk_frozen KG.out 1
            have q3 := blk_frozen KB.out 1
            have b1c := blk_cell KB.out 1
            simp at b1c
            by_cases hm0 : m = 0
            · subst hm0
              obtain ⟨ku, hku⟩ := (un_impl rest (by have := HRL.out; omega)).rounds
              have HUN := Aside0.mk hku
              have hule := un_le rest
              have hul1 := un_len rest
              obtain ⟨us, hus⟩ : ∃ us, us = (un rest).2 := ⟨_, rfl⟩
              obtain ⟨dd, hdd⟩ : ∃ dd, dd = (un rest).1 := ⟨_, rfl⟩
              have hR6 : R = if 20000 < dd.length then (false, 5, (at_ : Int), at_, l) else (false, 0, 0, at_ + us, l ++ [⟨0, dd⟩]) := by rw [HR5.out, if_pos rfl, hus, hdd]
              rw [← hus, ← hdd] at HUN
              rw [← hus] at hule
              rw [← hdd] at hul1
              have HR6 := Aside0.mk hR6
              have hrl2 : rest.length ≤ 60000 := by have := HRL.out; omega
              clear hku hus hdd hR6
              go_wp2_with fail
              refine (impl_Unstuff.calls ku (some ad) cr rest dd (us : Int) _ HRC6.out HRCC.out HUN.out).mono ?_
              rintro e_ w2 ⟨vd, rfl, hd, hb2⟩
              obtain ⟨Ad, cd, ed⟩ := Kd.R_slice hd
              subst ed
              have HD := Aside0.mk (Kd.R_mono (ok' := fun k => gs < k) (Kd.R_lower (Kd.R_bound hd) (show w0.heap.size ≤ W6.heap.size by have := HW6.out; omega)) (fun k hk => by have h1 := hk.2.1; have h2 := HW6.out; omega))
              have KG2 := Aside0.mk (blk_below KG.out hb2)
              have KR2 := Aside0.mk (blk_below KR.out hb2)
              have KQ2 := Aside0.mk (blk_below KQ.out hb2)
              have KB2 := Aside0.mk (blk_below KB.out hb2)
              have HB7 := Aside0.mk (Below.trans HB6.out (hb2.mono HB6.out.size))
              have HS7 := Aside0.mk (Kd.S_below HS6.out hb2)
              clear hd hb2 s0 s1 t0 t1 q0 q1 q2 q3 b1c
              have t0 := blk_cell KR2.out 0
              have t1 := blk_cell KR2.out 1
              simp at t0 t1
              have s1 := blk_cell KG2.out 1
              simp at s1
              have b1c := blk_cell KB2.out 1
              simp at b1c
              have q0 := blk_frozen KR2.out 0
              have q1 := blk_frozen KR2.out 1
              have q2 := blk_frozen KG2.out 1
              have q3 := blk_frozen KB2.out 1
              by_cases h20 : 20000 < dd.length
              · have hRe : R = (false, 5, (at_ : Int), at_, l) := by rw [HR6.out, if_pos h20]
                subst hRe
                have hseg : SegK w0 w2 g gq A c b at_ l := ⟨HB7.out, _, KG2.out, Kd.S_mono HS7.out (fun _ _ => trivial), KQ2.out⟩
                go_wp2
                obtain ⟨e1_, e2_⟩ := SegK.fin hseg KR2.out hgr hqr hgw (.int .i64 5) (.int .i64 at_)
                refine bodyPost_ret (results_list (rs := [.tmp 2, .cell 3 65]) rfl (by simp) (.tmp (.cell gr 65 #[.int .i64 5, .int .i64 at_] (0, 0) _ rfl (by exact e2_) Try.underlying65 rfl (by kernel_rfl) .nil))) rfl ?_
                exact ⟨rfl, by first | exact e1_.drew | exact e1_⟩
              · have hRe : R = (false, 0, 0, at_ + us, l ++ [⟨0, dd⟩]) := by rw [HR6.out, if_neg h20]
                have HRE := Aside0.mk hRe
                clear hRe
                have hnsg : ¬ gs = g := by omega
                have hngs : ¬ g = gs := by omega
                go_wp2
                go_meet
                case rel =>
                  refine ⟨at_ + us, dd, .slice Ad dd.length cd, HRE, ⟨blk_far (blk_set KB2.out 1 _) (by show gs ≠ g; omega) _⟩, ⟨blk_set (blk_far KG2.out (by show g ≠ gs; omega) _) 1 _⟩, ⟨blk_far (blk_far KR2.out (by show gr ≠ gs; omega) _) (by show gr ≠ g; omega) _⟩, ⟨blk_far (blk_far KQ2.out (by show gq ≠ gs; omega) _) hqg _⟩, ⟨below_set (below_set HB7.out hs0) hg⟩, ⟨?_⟩, ⟨?_⟩⟩
                  · exact Kd.S_mono (Kd.S_far (p := ⟨g, 1, none⟩) (Kd.S_far (p := ⟨gs, 1, none⟩) (Kd.S_types HS7.out KG2.out (by decide)) (fun k hk => by show k ≠ gs; have := hk.1; omega) _) (fun k hk => hk.2) _) (fun k hk => hk.1)
                  · exact Kd.R_mono (Kd.R_far (p := ⟨g, 1, none⟩) (Kd.R_far (p := ⟨gs, 1, none⟩) (Kd.R_types HD.out KG2.out (by decide)) (fun k hk => by show k ≠ gs; have := hk.1; omega) _) (fun k hk => hk.2) _) (fun k hk => hk.1)
            · exact absurd HKM.out hm0
          case rest =>
            obtain ⟨n2, d, vd, HRE, KB9, KG9, KR9, KQ9, HB9, HS9, HD9⟩ := hcut
            have hRe := HRE.out
            subst hRe
            obtain ⟨Ad, cd, ed⟩ := Kd.R_slice HD9.out
            subst ed
            have s0 := blk_cell KG9.out 0
            have s2 := blk_cell KG9.out 2
            simp at s0 s2
            have q4 := blk_frozen KG9.out 2
            have b0c := blk_cell KB9.out 0
            have b1c := blk_cell KB9.out 1
            simp at b0c b1c
            have t0 := blk_cell KR9.out 0
            have t1 := blk_cell KR9.out 1
            simp at t0 t1
            have s2a : ∀ o : Obj, (wc.alloc o).cell? ⟨g, 2, none⟩ = some (.slice Al3 l.length cl3) := fun o => (World.cell?_alloc_lt _ _ _ (blk_lt KG9.out)).trans s2
            have b0a : ∀ o : Obj, (wc.alloc o).cell? ⟨gs, 0, none⟩ = some (.int .i64 m) := fun o => (World.cell?_alloc_lt _ _ _ (blk_lt KB9.out)).trans b0c
            have b1a : ∀ o : Obj, (wc.alloc o).cell? ⟨gs, 1, none⟩ = some (.slice Ad d.length cd) := fun o => (World.cell?_alloc_lt _ _ _ (blk_lt KB9.out)).trans b1c
            have HOK := Aside0.mk (show ∀ k, gs < k → True ∧ some k ≠ (Value.slice Al3 l.length cl3).ownBlock from fun k hk => ⟨trivial, fun e => absurd (S_ok2 HS9.out k e.symm) (by omega)⟩)
            have HO9 := Aside0.mk (Kd.S_mono (ok' := fun k => True ∧ ¬ gs < k) HS9.out (fun k hk => ⟨trivial, by omega⟩))
            clear HRE
            go_upto_region 31 with (fail)
            go_region_law (refine Kd.S_append_step k131 (w0 := w0) (W := wc.drew) w0.heap.size (by rfl) (.tmp 195) (.tmp 197) 63 131 (.agg #[.int .i64 0, .slice none 0 0]) 32 (by rfl) Try.underlying63 info131 (by rfl) (by decide) (by decide) (.slice Al3 l.length cl3) l ⟨m, d⟩ [.int .i64 m, .slice Ad d.length cd] (fun _ => True) (fun k => gs < k) (by rfl) (by rfl) (k131_mkM _ _ _ _ (Kd.R_drew HD9.out)) HOK.out (fun _ _ => trivial) (Kd.S_drew HO9.out) (below_drew HB9.out) HB9.out.size (by omega) ?_; intro v8 w3 ho hb hg_ hat; obtain ⟨A8, c8, e8⟩ := Kd.S_slice ho; subst e8; have HO3 := Aside0.mk ho; have HB3 := Aside0.mk hb; have HG3 := Aside0.mk hg_; clear ho hb hg_ hat; have i1 := blk_grown (w := wc.drew) KG9.out HG3.out (Kd.S_ne (Kd.S_drew HS9.out) KG9.out (by decide)); have i2 := blk_grown (w := wc.drew) KR9.out HG3.out (Kd.S_ne (Kd.S_drew HS9.out) KR9.out (by decide)); have d3 := blk_cell i1 2; simp at d3; have e3 := blk_frozen i1 2; have I1 := Aside0.mk i1; have I2 := Aside0.mk i2; have I3 := Aside0.mk (blk_grown (w := wc.drew) KQ9.out HG3.out (Kd.S_ne (Kd.S_drew HS9.out) KQ9.out (by decide))); clear i1 i2)
            all_goals
              have hl1 : (l ++ [(⟨m, d⟩ : S131)]).length = l.length + 1 := by simp
              have ho3 := HO3.out
              rw [hl1] at ho3
              have hseg : SegK w0 (w3.setCell ⟨g, 2, none⟩ (.slice A8 (l.length + 1) c8)) g gq A c b n2 (l ++ [⟨m, d⟩]) := ⟨below_set HB3.out hg, _, blk_set I1.out 2 _, Kd.S_set ho3 I1.out (by decide) 2 _, blk_far I3.out hqg _⟩
              have hr9 := blk_far I2.out (p := ⟨g, 2, none⟩) (fun e => hgr e.symm) (.slice A8 (l.length + 1) c8)
              have HSEG := Aside0.mk hseg
              have HR9 := Aside0.mk hr9
              clear hseg hr9 ho3 hl1
              generalize w3.setCell ⟨g, 2, none⟩ (.slice A8 (l.length + 1) c8) = W9 at HSEG HR9 ⊢
              have u0 := blk_cell HR9.out 0
              have u1 := blk_cell HR9.out 1
              simp at u0 u1
              have u2 := blk_frozen HR9.out 0
              have u3 := blk_frozen HR9.out 1
              go_wp2
              obtain ⟨e1_, e2_⟩ := SegK.fin HSEG.out HR9.out hgr hqr hgw (.int .i64 0) (.int .i64 0)
              refine bodyPost_ret (results_list (rs := [.tmp 2, .cell 3 65]) rfl (by simp) (.tmp (.cell gr 65 #[.int .i64 0, .int .i64 0] (0, 0) _ rfl (by exact e2_) Try.underlying65 rfl (by kernel_rfl) .nil))) rfl ?_
              exact ⟨rfl, by first | exact e1_.drew | exact e1_⟩
set_option maxRecDepth 100000 in
set_option maxHeartbeats 4000000 in
theorem next_calls_b2 (w0 W : World) (g gq : Nat) (A : Option Addr) (c : Nat) (b : List Int) (at_ : Nat) (l : List S131) (h : SegK w0 W g gq A c b at_ l) (hg : w0.heap.size ≤ g) (hqg : gq ≠ g) (hC : Kd.C (Kd.int .u8) w0 A b.length b) (hc : b.length ≤ c) (hat : at_ ≤ b.length) (hlen : b.length ≤ 60000) (hB : ∀ x ∈ b, 0 ≤ x ∧ x ≤ 255) (hl : l.length ≤ 300) (hE : (¬ (b.drop at_ = [] ∨ b.drop at_ = [255]) ∧ markM (b.drop at_) ≠ 254 ∧ badM (markM (b.drop at_)) l = false ∧ l.length ≠ 300)) (hK : markM (b.drop at_) ≠ 0 ∧ isRest (markM (b.drop at_)) = true) :
    Calls Try.prog 133 #[.pointer (some ⟨g, 0, none⟩)] W fun e w' => e = .returned (.tuple #[.bool (nxt b at_ l).1, .agg #[.int .i64 (nxt b at_ l).2.1, .int .i64 (nxt b at_ l).2.2.1]]) ∧ SegK w0 w' g gq A c b (nxt b at_ l).2.2.2.1 (nxt b at_ l).2.2.2.2 := by
  obtain ⟨hbel, v, hk, hS, hq⟩ := h
  have HQ := Aside0.mk hq
  have k0 := blk_cell hk 0
  have k1 := blk_cell hk 1
  have k2 := blk_cell hk 2
  simp at k0 k1 k2
  obtain ⟨Al, cl, el⟩ := Kd.S_slice hS
  subst el
  have HBEL := Aside0.mk hbel
  have HK := Aside0.mk hk
  have HS := Aside0.mk hS
  have HCB := Aside0.mk hC
  have HCC := Aside0.mk hc
  have HBB := Aside0.mk hB
  have hatc : at_ ≤ c := by omega
  have HE := Aside0.mk hE
  have HKK := Aside0.mk hK
  clear hE hK
  clear hbel hk hS hC hB hq
  obtain ⟨R, hR⟩ : ∃ R, R = nxt b at_ l := ⟨_, rfl⟩
  rw [← hR]
  have HRR := Aside0.mk hR
  clear hR
  go_enter Try.func133, Try.ntmps133
  go_upto_region 1 with (fail)
  have hr := blk_new W (Obj.cells #[.int .i64 0, .int .i64 0] 65)
  have HK1 := Aside0.mk (blk_alloc HK.out (Obj.cells #[.int .i64 0, .int .i64 0] 65))
  have HS1 := Aside0.mk (Kd.S_alloc HS.out (Obj.cells #[.int .i64 0, .int .i64 0] 65))
  have HB1 := Aside0.mk (below_alloc HBEL.out (Obj.cells #[.int .i64 0, .int .i64 0] 65))
  have hgr : g ≠ W.heap.size := by have := blk_lt HK.out; omega
  have hqr : gq ≠ W.heap.size := by have := blk_lt HQ.out; omega
  have HQ1 := Aside0.mk (blk_alloc HQ.out (Obj.cells #[.int .i64 0, .int .i64 0] 65))
  have hgw : w0.heap.size ≤ W.heap.size := HBEL.out.size
  generalize W.heap.size = gr at hr hgr hqr hgw ⊢
  generalize W.alloc (Obj.cells #[.int .i64 0, .int .i64 0] 65) = W1 at hr HK1 HS1 HB1 HQ1 ⊢
  clear k0 k1 k2 HK HS HBEL HQ
  have k0 := blk_cell HK1.out 0
  have k1 := blk_cell HK1.out 1
  have k2 := blk_cell HK1.out 2
  simp at k0 k1 k2
  have HR := Aside0.mk hr
  clear hr
  go_wp2
  go_quiet (fail)
  go_upto_block 0 with (fail)
  obtain ⟨rest, hrest⟩ : ∃ rest, rest = b.drop at_ := ⟨_, rfl⟩
  have hrl : b.length - at_ = rest.length := by rw [hrest, List.length_drop]
  have hrc : Kd.C (Kd.int .u8) w0 (if c = at_ then A else A.map (·.add at_)) rest.length rest := by
    have h9 := Kd.C_drop HCB.out hat HCC.out
    rw [show (Kd.int IntKind.u8).sz = 1 from rfl] at h9
    simp only [Nat.mul_one] at h9
    rw [hrest]
    exact h9
  rw [hrl]
  generalize (if c = at_ then A else Option.map (fun x => x.add at_) A) = Ar at hrc ⊢
  have hrcc : rest.length ≤ c - at_ := by rw [← hrl]; omega
  have HRC := Aside0.mk hrc
  have HRCC := Aside0.mk hrcc
  have HREST := Aside0.mk hrest
  have HRL := Aside0.mk hrl
  have HRB := Aside0.mk (show ∀ x ∈ rest, 0 ≤ x ∧ x ≤ 255 from fun x hx => HBB.out x (by rw [hrest] at hx; exact List.mem_of_mem_drop hx))
  have HSG : Aside0 (SegK w0 (W1.drewN nq) g gq A c b at_ l) := ⟨pw_below_drewN HB1.out nq, _, HK1.out, Kd.S_drewN HS1.out nq, HQ1.out⟩
  have HR2 : Aside0 ((W1.drewN nq).heap[gr]? = some (.cells #[.int .i64 0, .int .i64 0] 65 (0, 0))) := ⟨HR.out⟩
  have HRC1 := Aside0.mk (Kd.C_below hrc HSG.out.1)
  generalize hcr : c - at_ = cr at HRCC ⊢
  generalize W1.drewN nq = W2 at HSG HR2 HRC1 ⊢
  clear hrest hrl hrc hrcc HK1 HS1 HB1 HQ1 HR k0 k1 k2 hcr
  have j0 : W2.cell? ⟨g, 0, none⟩ = some (.slice A b.length c) := by obtain ⟨_, v, h2, _⟩ := HSG.out; exact blk_cell h2 0
  have j1 : W2.cell? ⟨g, 1, none⟩ = some (.int .i64 (at_ : Int)) := by obtain ⟨_, v, h2, _⟩ := HSG.out; exact blk_cell h2 1
  have r0 : W2.cell? ⟨gr, 0, none⟩ = some (.int .i64 0) := blk_cell HR2.out 0
  have r1 : W2.cell? ⟨gr, 1, none⟩ = some (.int .i64 0) := blk_cell HR2.out 1
  have f0 : W2.frozen? ⟨gr, 0, none⟩ = false := blk_frozen HR2.out 0
  have f1 : W2.frozen? ⟨gr, 1, none⟩ = false := blk_frozen HR2.out 1
  by_cases hend : rest = [] ∨ rest = [255]
  · exact absurd hend (by rw [HREST.out]; exact HE.out.1)
  · have hne : rest ≠ [] := fun e => hend (.inl e)
    have hlr : 0 < rest.length := List.length_pos_iff.2 hne
    obtain ⟨ad, q1, hx0⟩ := Kd.at_int HRC1.out 0 (by omega) (by omega)
    cases q1
    rw [show (0 : Int).toNat = 0 from rfl, Addr.add_zero'] at hx0
    have hx1 : 1 < rest.length → W2.cell? ⟨ad.block, ad.off + 1, none⟩ = some (.int .u8 (rd rest 1)) := fun h => by
      obtain ⟨ad', q2, hx⟩ := Kd.at_int HRC1.out 1 (by omega) (by omega)
      cases q2
      have e := add_field ad 0 1 (by omega)
      rw [Nat.zero_add, Addr.add_zero'] at e
      rw [show (1 : Int).toNat = 1 from rfl, e] at hx
      exact hx
    have HX1 := Aside0.mk hx1
    obtain ⟨b0, hb0⟩ : ∃ b0, b0 = rd rest 0 := ⟨_, rfl⟩
    obtain ⟨b1, hb1⟩ : ∃ b1, b1 = rd rest 1 := ⟨_, rfl⟩
    obtain ⟨m, hm⟩ : ∃ m, m = markM rest := ⟨_, rfl⟩
    have hm2 : m = if b0 ≠ 255 ∨ b1 = 0 then 0 else b1 := by rw [hm, markM, hb0, hb1]
    have hb0r : 0 ≤ b0 ∧ b0 ≤ 255 := by
      rw [hb0]; cases rest with
      | nil => simp at hlr
      | cons x t => exact HRB.out x List.mem_cons_self
    have hb1r : 0 ≤ b1 ∧ b1 ≤ 255 := by
      rw [hb1]; match rest with
      | [] => simp [rd]
      | [x] => simp [rd]
      | x :: y :: t => exact HRB.out y (by simp)
    have hone : rest.length = 1 → b0 ≠ 255 := by
      intro h e
      obtain ⟨x, rfl⟩ := List.length_eq_one_iff.1 h
      exact hend (.inr (by rw [← e, hb0]; rfl))
    rw [← hb0] at hx0
    have hR3 : R = if m = 254 then (true, 0, 0, at_ + 2, l) else if badM m l then (false, 4, (at_ : Int), at_, l) else if l.length = 300 then (false, 6, (at_ : Int), at_, l)
        else if m = 0 then (if 20000 < (un rest).1.length then (false, 5, (at_ : Int), at_, l) else (false, 0, 0, at_ + (un rest).2, l ++ [⟨0, (un rest).1⟩]))
        else if isRest m then (false, 0, 0, at_ + 2, l ++ [⟨m, []⟩]) else if rest.length < 4 then (false, 3, (b.length : Int), at_, l) else if 20000 < lenM rest then (false, 5, (at_ : Int), at_, l)
        else if (rest.length : Int) < 4 + lenM rest then (false, 3, (b.length : Int), at_, l) else (false, 0, 0, at_ + 4 + (lenM rest).toNat, l ++ [⟨m, (rest.drop 4).take (lenM rest).toNat⟩]) := by
      rw [HRR.out, nxt, ← HREST.out, if_neg hend, ← hm]
    have HR3 := Aside0.mk hR3
    have HB1E := Aside0.mk hb1
    have hmr : 0 ≤ m ∧ m ≤ 255 := by rw [hm2]; split <;> omega
    have HE2 := Aside0.mk (show (¬ (rest = [] ∨ rest = [255]) ∧ m ≠ 254 ∧ badM m l = false ∧ l.length ≠ 300) from by rw [hm, HREST.out]; exact HE.out)
    have HKM := Aside0.mk (show m ≠ 0 ∧ isRest m = true from by rw [hm, HREST.out]; exact HKK.out)
    have HM2 := Aside0.mk hm2
    have HMM := Aside0.mk hm
    have HEND := Aside0.mk hend
    clear hx1 hb0 hb1 hm hm2 hR3 hend hne HRR
    go_cut [6] from 11 (fun v6 wx => v6 = .int .i64 m ∧ wx = W2)
    case first =>

      have z0 : ((rest.length : Int) == 0) = false := by rw [beq_eq_false_iff_ne]; omega
      by_cases h255 : b0 = 255
      · have h1 : 1 < rest.length := by
          rcases Nat.lt_or_ge 1 rest.length with h | h
          · exact h
          · exact absurd h255 (hone (by omega))
        have z1 : ((rest.length : Int) == 1) = false := by rw [beq_eq_false_iff_ne]; omega
        have hx1 := HX1.out h1
        rw [← show b1 = rd rest 1 from HB1E.out] at hx1
        subst h255
        by_cases hz : b1 = 0
        · subst hz
          have hmz : m = 0 := by rw [HM2.out]; simp
          subst hmz
          go_wp2
          go_meet
          case rel => exact ⟨rfl, rfl⟩
        · have hmz : m = b1 := by rw [HM2.out]; simp [hz]
          subst hmz
          go_wp2
          go_meet
          case rel => exact ⟨by first | rfl | (congr 1; omega), rfl⟩
      · have hmz : m = 0 := by rw [HM2.out]; simp [h255]
        subst hmz
        have z2 : (b0 == 255) = false := by simp [h255]
        by_cases h1 : rest.length = 1
        · have z1 : ((rest.length : Int) == 1) = true := by simp [h1]
          clear h1
          go_wp2
          go_meet
          case rel => exact ⟨rfl, rfl⟩
        · have z1 : ((rest.length : Int) == 1) = false := by rw [beq_eq_false_iff_ne]; omega
          go_wp2
          go_meet
          case rel => exact ⟨rfl, rfl⟩

    case rest =>
      obtain ⟨rfl, rfl⟩ := hcut
      by_cases h254 : m = 254
      · exact absurd h254 HE2.out.2.1
      · have hz254 : (m == 254) = false := by simp [h254]
        obtain ⟨_, v2, hk2, hs2, _⟩ := HSG.out
        obtain ⟨Al2, cl2, e2⟩ := Kd.S_slice hs2
        subst e2
        have j2 := blk_cell hk2 2
        simp at j2
        have HSR := Kd.S_reads' hs2
        have HSC := Aside0.mk HSR.2.2
        have HSL := Aside0.mk HSR.2.1
        have HK2 := Aside0.mk hk2
        have HS2 := Aside0.mk hs2
        have HMR := Aside0.mk (mayRun_val l hl)
        have HMS := Aside0.mk (mayRest_val l hl)
        have HIR := Aside0.mk (isRest_val m)
        clear hk2 hs2 HSR
        have hR4 : R = if badM m l then (false, 4, (at_ : Int), at_, l) else if l.length = 300 then (false, 6, (at_ : Int), at_, l)
            else if m = 0 then (if 20000 < (un rest).1.length then (false, 5, (at_ : Int), at_, l) else (false, 0, 0, at_ + (un rest).2, l ++ [⟨0, (un rest).1⟩]))
            else if isRest m then (false, 0, 0, at_ + 2, l ++ [⟨m, []⟩]) else if rest.length < 4 then (false, 3, (b.length : Int), at_, l) else if 20000 < lenM rest then (false, 5, (at_ : Int), at_, l)
            else if (rest.length : Int) < 4 + lenM rest then (false, 3, (b.length : Int), at_, l) else (false, 0, 0, at_ + 4 + (lenM rest).toNat, l ++ [⟨m, (rest.drop 4).take (lenM rest).toNat⟩]) := by
          rw [HR3.out, if_neg h254]
        have HR4 := Aside0.mk hR4
        clear hR4 HR3
        go_upto_block 1 with (fail)
        go_cut [] from 11 (fun wx => Aside0 (SegK w0 wx g gq A c b at_ l) ∧ Aside0 (wx.heap[gr]? = some (.cells #[.int .i64 0, .int .i64 0] 65 (0, 0))) ∧ Aside0 (badM m l = false) ∧ l.length ≠ 300)
        case first =>

          by_cases h247 : 247 < m
          · exact absurd HE2.out.2.2.1 (by simp [badM, h247])
          · by_cases hm0 : m = 0
            · subst hm0
              cases hmr : mayRunM l with
              | false =>
                exact absurd HE2.out.2.2.1 (by simp [badM, hmr])
              | true =>
                have hbad : badM 0 l = false := by simp [badM, hmr, isRest]
                have HBAD := Aside0.mk hbad
                have hir0 : isRest 0 = false := by decide
                rw [hmr] at HMR
                rw [hir0] at HIR
                clear hbad hmr hir0
                go_wp2_with fail
                refine (impl_mayRun.calls Al2 cl2 l true _ (Kd.C_drewN HSC.out 0) HSL.out HMR.out).mono ?_
                rintro e_ w_ ⟨rfl, ⟨n1, rfl⟩⟩
                go_wp2_with fail
                refine (impl_isRestart.calls 0 false _ HIR.out).mono ?_
                rintro e_ w_ ⟨rfl, ⟨n2, rfl⟩⟩
                by_cases h300 : l.length = 300
                · exact absurd h300 HE2.out.2.2.2
                · have h3b : ((l.length : Int) == 300) = false := by rw [beq_eq_false_iff_ne]; omega
                  go_wp2
                  go_meet
                  case rel => exact ⟨⟨HSG.out.drewN _⟩, ⟨HR2.out⟩, HBAD, h300⟩
            · have hm0b : (m == 0) = false := by simp [hm0]
              cases hir : isRest m with
              | false =>
                have hbad : badM m l = false := by simp [badM, h247, hm0, hir]
                have HBAD := Aside0.mk hbad
                rw [hir] at HIR
                clear hbad hir
                go_wp2_with fail
                refine (impl_isRestart.calls m false _ HIR.out).mono ?_
                rintro e_ w_ ⟨rfl, ⟨n2, rfl⟩⟩
                by_cases h300 : l.length = 300
                · exact absurd h300 HE2.out.2.2.2
                · have h3b : ((l.length : Int) == 300) = false := by rw [beq_eq_false_iff_ne]; omega
                  go_wp2
                  go_meet
                  case rel => exact ⟨⟨HSG.out.drewN _⟩, ⟨HR2.out⟩, HBAD, h300⟩
              | true =>
                cases hmr : mayRestM l with
                | false =>
                  exact absurd HE2.out.2.2.1 (by simp [badM, hir, hmr])
                | true =>
                  have hbad : badM m l = false := by simp [badM, h247, hm0, hmr]
                  have HBAD := Aside0.mk hbad
                  rw [hir] at HIR
                  rw [hmr] at HMS
                  clear hbad hir hmr
                  go_wp2_with fail
                  refine (impl_isRestart.calls m true _ HIR.out).mono ?_
                  rintro e_ w_ ⟨rfl, ⟨n2, rfl⟩⟩
                  go_wp2_with fail
                  refine (impl_mayRestart.calls Al2 cl2 l true _ (Kd.C_drewN HSC.out _) HSL.out HMS.out).mono ?_
                  rintro e_ w_ ⟨rfl, ⟨n3, rfl⟩⟩
                  by_cases h300 : l.length = 300
                  · exact absurd h300 HE2.out.2.2.2
                  · have h3b : ((l.length : Int) == 300) = false := by rw [beq_eq_false_iff_ne]; omega
                    go_wp2
                    go_meet
                    case rel => exact ⟨⟨HSG.out.drewN _⟩, ⟨HR2.out⟩, HBAD, h300⟩

        case rest =>
          obtain ⟨HSG3, HRF, HBAD, h300⟩ := hcut
          have hR5 : R = if m = 0 then (if 20000 < (un rest).1.length then (false, 5, (at_ : Int), at_, l) else (false, 0, 0, at_ + (un rest).2, l ++ [⟨0, (un rest).1⟩]))
              else if isRest m then (false, 0, 0, at_ + 2, l ++ [⟨m, []⟩]) else if rest.length < 4 then (false, 3, (b.length : Int), at_, l) else if 20000 < lenM rest then (false, 5, (at_ : Int), at_, l)
              else if (rest.length : Int) < 4 + lenM rest then (false, 3, (b.length : Int), at_, l) else (false, 0, 0, at_ + 4 + (lenM rest).toNat, l ++ [⟨m, (rest.drop 4).take (lenM rest).toNat⟩]) := by
            rw [HR4.out, HBAD.out, if_neg (by decide), if_neg h300]
          have HR5 := Aside0.mk hR5
          clear hR5 HR4 HSG HR2 HRC1 j0 j1 r0 r1 f0 f1 hx0 j2 HSC HSL HK2 HS2 HMR HMS hz254
          go_upto_block 2 with (fail)
          obtain ⟨hb3, v3, hk3, hs3, hq3⟩ := HSG3.out
          obtain ⟨Al3, cl3, e3⟩ := Kd.S_slice hs3
          subst e3
          have kb := blk_new wc (Obj.cells #[.int .i64 m, .slice none 0 0] 131)
          have KG := Aside0.mk (blk_alloc hk3 (Obj.cells #[.int .i64 m, .slice none 0 0] 131))
          have KQ := Aside0.mk (blk_alloc hq3 (Obj.cells #[.int .i64 m, .slice none 0 0] 131))
          have hsq : gq < wc.heap.size := blk_lt hq3
          have KR := Aside0.mk (blk_alloc HRF.out (Obj.cells #[.int .i64 m, .slice none 0 0] 131))
          have HB6 := Aside0.mk (below_alloc hb3 (Obj.cells #[.int .i64 m, .slice none 0 0] 131))
          have HS6 := Aside0.mk (Kd.S_mono (ok' := fun k => k < wc.heap.size) (Kd.S_alloc (Kd.S_bound hs3) (Obj.cells #[.int .i64 m, .slice none 0 0] 131)) (fun k hk => hk.2.2.1))
          have hsg : g < wc.heap.size := blk_lt hk3
          have hsr : gr < wc.heap.size := blk_lt HRF.out
          have hs0 : w0.heap.size ≤ wc.heap.size := hb3.size
          have hW6s : (wc.alloc (Obj.cells #[.int .i64 m, .slice none 0 0] 131)).heap.size = wc.heap.size + 1 := World.size_alloc ..
          have HRC6 := Aside0.mk (Kd.C_below HRC.out HB6.out)
          generalize wc.heap.size = gs at kb HS6 hsg hsr hsq hs0 hW6s ⊢
          generalize wc.alloc (Obj.cells #[.int .i64 m, .slice none 0 0] 131) = W6 at kb KG KR KQ HB6 HS6 hW6s HRC6 ⊢
          have KB := Aside0.mk kb
          have HW6 := Aside0.mk hW6s
          clear hb3 hk3 hs3 hq3 HSG3 HRF kb hW6s
          go_cut [] from 11 (fun wx => ∃ (n2 : Nat) (d : List Int) (vd : Value), Aside0 (R = (false, 0, 0, n2, l ++ [⟨m, d⟩])) ∧ Aside0 (wx.heap[gs]? = some (.cells #[.int .i64 m, vd] 131 (0, 0))) ∧ Aside0 (wx.heap[g]? = some (.cells #[.slice A b.length c, .int .i64 (n2 : Int), .slice Al3 l.length cl3] 136 (0, 0))) ∧ Aside0 (wx.heap[gr]? = some (.cells #[.int .i64 0, .int .i64 0] 65 (0, 0))) ∧ Aside0 (wx.heap[gq]? = some (.cells #[.int .i64 0, .int .i64 0] 65 (0, 0))) ∧
            Aside0 (Below w0.heap.size w0 wx) ∧ Aside0 (Kd.S k131 131 wx w0.heap.size (fun k => k < gs) (.slice Al3 l.length cl3) l) ∧ Aside0 (Kd.R (Kd.int .u8) 5 wx w0.heap.size (fun k => gs < k) vd d))
          case first =>

            have s0 := blk_cell KG.out 0
            have s1 := blk_cell KG.out 1
            simp at s0 s1
            have t0 := blk_cell KR.out 0
            have t1 := blk_cell KR.out 1
            simp at t0 t1
            have q0 := blk_frozen KR.out 0
            have q1 := blk_frozen KR.out 1
            have q2 := blk_frozen KG.out 1
            have q3 := blk_frozen KB.out 1
            have b1c := blk_cell KB.out 1
            simp at b1c
            by_cases hm0 : m = 0
            · exact absurd hm0 HKM.out.1
            · have hm0b : (m == 0) = false := by simp [hm0]
              cases hir : isRest m with
              | true =>
                have hRe : R = (false, 0, 0, at_ + 2, l ++ [⟨m, []⟩]) := by rw [HR5.out, if_neg hm0, if_pos hir]
                have HRE := Aside0.mk hRe
                rw [hir] at HIR
                clear hRe hir
                go_wp2_with fail
                refine (impl_isRestart.calls m true _ HIR.out).mono ?_
                rintro e_ w_ ⟨rfl, ⟨n2, rfl⟩⟩
                go_wp2
                go_meet
                case rel =>
                  refine ⟨at_ + 2, [], .slice none 0 0, HRE, ⟨blk_far (w := W6.drewN n2) KB.out (by show gs ≠ g; omega) _⟩, ⟨blk_set (w := W6.drewN n2) KG.out 1 _⟩, ⟨blk_far (w := W6.drewN n2) KR.out (by show gr ≠ g; omega) _⟩, ⟨blk_far (w := W6.drewN n2) KQ.out hqg _⟩, ⟨below_set (pw_below_drewN HB6.out n2) hg⟩, ⟨?_⟩, ⟨Kd.R_nil _ _ _ _ _⟩⟩
                  exact Kd.S_mono (Kd.S_far (p := ⟨g, 1, none⟩) (Kd.S_types (Kd.S_drewN HS6.out n2) (show (W6.drewN n2).heap[g]? = _ from KG.out) (by decide)) (fun k hk => hk.2) _) (fun k hk => hk.1)
              | false =>
                rw [HKM.out.2] at hir
                cases hir
          case rest =>
            obtain ⟨n2, d, vd, HRE, KB9, KG9, KR9, KQ9, HB9, HS9, HD9⟩ := hcut
            have hRe := HRE.out
            subst hRe
            obtain ⟨Ad, cd, ed⟩ := Kd.R_slice HD9.out
            subst ed
            have s0 := blk_cell KG9.out 0
            have s2 := blk_cell KG9.out 2
            simp at s0 s2
            have q4 := blk_frozen KG9.out 2
            have b0c := blk_cell KB9.out 0
            have b1c := blk_cell KB9.out 1
            simp at b0c b1c
            have t0 := blk_cell KR9.out 0
            have t1 := blk_cell KR9.out 1
            simp at t0 t1
            have s2a : ∀ o : Obj, (wc.alloc o).cell? ⟨g, 2, none⟩ = some (.slice Al3 l.length cl3) := fun o => (World.cell?_alloc_lt _ _ _ (blk_lt KG9.out)).trans s2
            have b0a : ∀ o : Obj, (wc.alloc o).cell? ⟨gs, 0, none⟩ = some (.int .i64 m) := fun o => (World.cell?_alloc_lt _ _ _ (blk_lt KB9.out)).trans b0c
            have b1a : ∀ o : Obj, (wc.alloc o).cell? ⟨gs, 1, none⟩ = some (.slice Ad d.length cd) := fun o => (World.cell?_alloc_lt _ _ _ (blk_lt KB9.out)).trans b1c
            have HOK := Aside0.mk (show ∀ k, gs < k → True ∧ some k ≠ (Value.slice Al3 l.length cl3).ownBlock from fun k hk => ⟨trivial, fun e => absurd (S_ok2 HS9.out k e.symm) (by omega)⟩)
            have HO9 := Aside0.mk (Kd.S_mono (ok' := fun k => True ∧ ¬ gs < k) HS9.out (fun k hk => ⟨trivial, by omega⟩))
            clear HRE
            go_upto_region 31 with (fail)
            go_region_law (refine Kd.S_append_step k131 (w0 := w0) (W := wc.drew) w0.heap.size (by rfl) (.tmp 195) (.tmp 197) 63 131 (.agg #[.int .i64 0, .slice none 0 0]) 32 (by rfl) Try.underlying63 info131 (by rfl) (by decide) (by decide) (.slice Al3 l.length cl3) l ⟨m, d⟩ [.int .i64 m, .slice Ad d.length cd] (fun _ => True) (fun k => gs < k) (by rfl) (by rfl) (k131_mkM _ _ _ _ (Kd.R_drew HD9.out)) HOK.out (fun _ _ => trivial) (Kd.S_drew HO9.out) (below_drew HB9.out) HB9.out.size (by omega) ?_; intro v8 w3 ho hb hg_ hat; obtain ⟨A8, c8, e8⟩ := Kd.S_slice ho; subst e8; have HO3 := Aside0.mk ho; have HB3 := Aside0.mk hb; have HG3 := Aside0.mk hg_; clear ho hb hg_ hat; have i1 := blk_grown (w := wc.drew) KG9.out HG3.out (Kd.S_ne (Kd.S_drew HS9.out) KG9.out (by decide)); have i2 := blk_grown (w := wc.drew) KR9.out HG3.out (Kd.S_ne (Kd.S_drew HS9.out) KR9.out (by decide)); have d3 := blk_cell i1 2; simp at d3; have e3 := blk_frozen i1 2; have I1 := Aside0.mk i1; have I2 := Aside0.mk i2; have I3 := Aside0.mk (blk_grown (w := wc.drew) KQ9.out HG3.out (Kd.S_ne (Kd.S_drew HS9.out) KQ9.out (by decide))); clear i1 i2)
            all_goals
              have hl1 : (l ++ [(⟨m, d⟩ : S131)]).length = l.length + 1 := by simp
              have ho3 := HO3.out
              rw [hl1] at ho3
              have hseg : SegK w0 (w3.setCell ⟨g, 2, none⟩ (.slice A8 (l.length + 1) c8)) g gq A c b n2 (l ++ [⟨m, d⟩]) := ⟨below_set HB3.out hg, _, blk_set I1.out 2 _, Kd.S_set ho3 I1.out (by decide) 2 _, blk_far I3.out hqg _⟩
              have hr9 := blk_far I2.out (p := ⟨g, 2, none⟩) (fun e => hgr e.symm) (.slice A8 (l.length + 1) c8)
              have HSEG := Aside0.mk hseg
              have HR9 := Aside0.mk hr9
              clear hseg hr9 ho3 hl1
              generalize w3.setCell ⟨g, 2, none⟩ (.slice A8 (l.length + 1) c8) = W9 at HSEG HR9 ⊢
              have u0 := blk_cell HR9.out 0
              have u1 := blk_cell HR9.out 1
              simp at u0 u1
              have u2 := blk_frozen HR9.out 0
              have u3 := blk_frozen HR9.out 1
              go_wp2
              obtain ⟨e1_, e2_⟩ := SegK.fin HSEG.out HR9.out hgr hqr hgw (.int .i64 0) (.int .i64 0)
              refine bodyPost_ret (results_list (rs := [.tmp 2, .cell 3 65]) rfl (by simp) (.tmp (.cell gr 65 #[.int .i64 0, .int .i64 0] (0, 0) _ rfl (by exact e2_) Try.underlying65 rfl (by kernel_rfl) .nil))) rfl ?_
              exact ⟨rfl, by first | exact e1_.drew | exact e1_⟩
set_option maxRecDepth 100000 in
set_option maxHeartbeats 4000000 in
theorem next_calls_b3 (w0 W : World) (g gq : Nat) (A : Option Addr) (c : Nat) (b : List Int) (at_ : Nat) (l : List S131) (h : SegK w0 W g gq A c b at_ l) (hg : w0.heap.size ≤ g) (hqg : gq ≠ g) (hC : Kd.C (Kd.int .u8) w0 A b.length b) (hc : b.length ≤ c) (hat : at_ ≤ b.length) (hlen : b.length ≤ 60000) (hB : ∀ x ∈ b, 0 ≤ x ∧ x ≤ 255) (hl : l.length ≤ 300) (hE : (¬ (b.drop at_ = [] ∨ b.drop at_ = [255]) ∧ markM (b.drop at_) ≠ 254 ∧ badM (markM (b.drop at_)) l = false ∧ l.length ≠ 300)) (hK : markM (b.drop at_) ≠ 0 ∧ isRest (markM (b.drop at_)) = false) :
    Calls Try.prog 133 #[.pointer (some ⟨g, 0, none⟩)] W fun e w' => e = .returned (.tuple #[.bool (nxt b at_ l).1, .agg #[.int .i64 (nxt b at_ l).2.1, .int .i64 (nxt b at_ l).2.2.1]]) ∧ SegK w0 w' g gq A c b (nxt b at_ l).2.2.2.1 (nxt b at_ l).2.2.2.2 := by
  obtain ⟨hbel, v, hk, hS, hq⟩ := h
  have HQ := Aside0.mk hq
  have k0 := blk_cell hk 0
  have k1 := blk_cell hk 1
  have k2 := blk_cell hk 2
  simp at k0 k1 k2
  obtain ⟨Al, cl, el⟩ := Kd.S_slice hS
  subst el
  have HBEL := Aside0.mk hbel
  have HK := Aside0.mk hk
  have HS := Aside0.mk hS
  have HCB := Aside0.mk hC
  have HCC := Aside0.mk hc
  have HBB := Aside0.mk hB
  have hatc : at_ ≤ c := by omega
  have HE := Aside0.mk hE
  have HKK := Aside0.mk hK
  clear hE hK
  clear hbel hk hS hC hB hq
  obtain ⟨R, hR⟩ : ∃ R, R = nxt b at_ l := ⟨_, rfl⟩
  rw [← hR]
  have HRR := Aside0.mk hR
  clear hR
  go_enter Try.func133, Try.ntmps133
  go_upto_region 1 with (fail)
  have hr := blk_new W (Obj.cells #[.int .i64 0, .int .i64 0] 65)
  have HK1 := Aside0.mk (blk_alloc HK.out (Obj.cells #[.int .i64 0, .int .i64 0] 65))
  have HS1 := Aside0.mk (Kd.S_alloc HS.out (Obj.cells #[.int .i64 0, .int .i64 0] 65))
  have HB1 := Aside0.mk (below_alloc HBEL.out (Obj.cells #[.int .i64 0, .int .i64 0] 65))
  have hgr : g ≠ W.heap.size := by have := blk_lt HK.out; omega
  have hqr : gq ≠ W.heap.size := by have := blk_lt HQ.out; omega
  have HQ1 := Aside0.mk (blk_alloc HQ.out (Obj.cells #[.int .i64 0, .int .i64 0] 65))
  have hgw : w0.heap.size ≤ W.heap.size := HBEL.out.size
  generalize W.heap.size = gr at hr hgr hqr hgw ⊢
  generalize W.alloc (Obj.cells #[.int .i64 0, .int .i64 0] 65) = W1 at hr HK1 HS1 HB1 HQ1 ⊢
  clear k0 k1 k2 HK HS HBEL HQ
  have k0 := blk_cell HK1.out 0
  have k1 := blk_cell HK1.out 1
  have k2 := blk_cell HK1.out 2
  simp at k0 k1 k2
  have HR := Aside0.mk hr
  clear hr
  go_wp2
  go_quiet (fail)
  go_upto_block 0 with (fail)
  obtain ⟨rest, hrest⟩ : ∃ rest, rest = b.drop at_ := ⟨_, rfl⟩
  have hrl : b.length - at_ = rest.length := by rw [hrest, List.length_drop]
  have hrc : Kd.C (Kd.int .u8) w0 (if c = at_ then A else A.map (·.add at_)) rest.length rest := by
    have h9 := Kd.C_drop HCB.out hat HCC.out
    rw [show (Kd.int IntKind.u8).sz = 1 from rfl] at h9
    simp only [Nat.mul_one] at h9
    rw [hrest]
    exact h9
  rw [hrl]
  generalize (if c = at_ then A else Option.map (fun x => x.add at_) A) = Ar at hrc ⊢
  have hrcc : rest.length ≤ c - at_ := by rw [← hrl]; omega
  have HRC := Aside0.mk hrc
  have HRCC := Aside0.mk hrcc
  have HREST := Aside0.mk hrest
  have HRL := Aside0.mk hrl
  have HRB := Aside0.mk (show ∀ x ∈ rest, 0 ≤ x ∧ x ≤ 255 from fun x hx => HBB.out x (by rw [hrest] at hx; exact List.mem_of_mem_drop hx))
  have HSG : Aside0 (SegK w0 (W1.drewN nq) g gq A c b at_ l) := ⟨pw_below_drewN HB1.out nq, _, HK1.out, Kd.S_drewN HS1.out nq, HQ1.out⟩
  have HR2 : Aside0 ((W1.drewN nq).heap[gr]? = some (.cells #[.int .i64 0, .int .i64 0] 65 (0, 0))) := ⟨HR.out⟩
  have HRC1 := Aside0.mk (Kd.C_below hrc HSG.out.1)
  generalize hcr : c - at_ = cr at HRCC ⊢
  generalize W1.drewN nq = W2 at HSG HR2 HRC1 ⊢
  clear hrest hrl hrc hrcc HK1 HS1 HB1 HQ1 HR k0 k1 k2 hcr
  have j0 : W2.cell? ⟨g, 0, none⟩ = some (.slice A b.length c) := by obtain ⟨_, v, h2, _⟩ := HSG.out; exact blk_cell h2 0
  have j1 : W2.cell? ⟨g, 1, none⟩ = some (.int .i64 (at_ : Int)) := by obtain ⟨_, v, h2, _⟩ := HSG.out; exact blk_cell h2 1
  have r0 : W2.cell? ⟨gr, 0, none⟩ = some (.int .i64 0) := blk_cell HR2.out 0
  have r1 : W2.cell? ⟨gr, 1, none⟩ = some (.int .i64 0) := blk_cell HR2.out 1
  have f0 : W2.frozen? ⟨gr, 0, none⟩ = false := blk_frozen HR2.out 0
  have f1 : W2.frozen? ⟨gr, 1, none⟩ = false := blk_frozen HR2.out 1
  by_cases hend : rest = [] ∨ rest = [255]
  · exact absurd hend (by rw [HREST.out]; exact HE.out.1)
  · have hne : rest ≠ [] := fun e => hend (.inl e)
    have hlr : 0 < rest.length := List.length_pos_iff.2 hne
    obtain ⟨ad, q1, hx0⟩ := Kd.at_int HRC1.out 0 (by omega) (by omega)
    cases q1
    rw [show (0 : Int).toNat = 0 from rfl, Addr.add_zero'] at hx0
    have hx1 : 1 < rest.length → W2.cell? ⟨ad.block, ad.off + 1, none⟩ = some (.int .u8 (rd rest 1)) := fun h => by
      obtain ⟨ad', q2, hx⟩ := Kd.at_int HRC1.out 1 (by omega) (by omega)
      cases q2
      have e := add_field ad 0 1 (by omega)
      rw [Nat.zero_add, Addr.add_zero'] at e
      rw [show (1 : Int).toNat = 1 from rfl, e] at hx
      exact hx
    have HX1 := Aside0.mk hx1
    obtain ⟨b0, hb0⟩ : ∃ b0, b0 = rd rest 0 := ⟨_, rfl⟩
    obtain ⟨b1, hb1⟩ : ∃ b1, b1 = rd rest 1 := ⟨_, rfl⟩
    obtain ⟨m, hm⟩ : ∃ m, m = markM rest := ⟨_, rfl⟩
    have hm2 : m = if b0 ≠ 255 ∨ b1 = 0 then 0 else b1 := by rw [hm, markM, hb0, hb1]
    have hb0r : 0 ≤ b0 ∧ b0 ≤ 255 := by
      rw [hb0]; cases rest with
      | nil => simp at hlr
      | cons x t => exact HRB.out x List.mem_cons_self
    have hb1r : 0 ≤ b1 ∧ b1 ≤ 255 := by
      rw [hb1]; match rest with
      | [] => simp [rd]
      | [x] => simp [rd]
      | x :: y :: t => exact HRB.out y (by simp)
    have hone : rest.length = 1 → b0 ≠ 255 := by
      intro h e
      obtain ⟨x, rfl⟩ := List.length_eq_one_iff.1 h
      exact hend (.inr (by rw [← e, hb0]; rfl))
    rw [← hb0] at hx0
    have hR3 : R = if m = 254 then (true, 0, 0, at_ + 2, l) else if badM m l then (false, 4, (at_ : Int), at_, l) else if l.length = 300 then (false, 6, (at_ : Int), at_, l)
        else if m = 0 then (if 20000 < (un rest).1.length then (false, 5, (at_ : Int), at_, l) else (false, 0, 0, at_ + (un rest).2, l ++ [⟨0, (un rest).1⟩]))
        else if isRest m then (false, 0, 0, at_ + 2, l ++ [⟨m, []⟩]) else if rest.length < 4 then (false, 3, (b.length : Int), at_, l) else if 20000 < lenM rest then (false, 5, (at_ : Int), at_, l)
        else if (rest.length : Int) < 4 + lenM rest then (false, 3, (b.length : Int), at_, l) else (false, 0, 0, at_ + 4 + (lenM rest).toNat, l ++ [⟨m, (rest.drop 4).take (lenM rest).toNat⟩]) := by
      rw [HRR.out, nxt, ← HREST.out, if_neg hend, ← hm]
    have HR3 := Aside0.mk hR3
    have HB1E := Aside0.mk hb1
    have hmr : 0 ≤ m ∧ m ≤ 255 := by rw [hm2]; split <;> omega
    have HE2 := Aside0.mk (show (¬ (rest = [] ∨ rest = [255]) ∧ m ≠ 254 ∧ badM m l = false ∧ l.length ≠ 300) from by rw [hm, HREST.out]; exact HE.out)
    have HKM := Aside0.mk (show m ≠ 0 ∧ isRest m = false from by rw [hm, HREST.out]; exact HKK.out)
    have HM2 := Aside0.mk hm2
    have HMM := Aside0.mk hm
    have HEND := Aside0.mk hend
    clear hx1 hb0 hb1 hm hm2 hR3 hend hne HRR
    go_cut [6] from 11 (fun v6 wx => v6 = .int .i64 m ∧ wx = W2)
    case first =>

      have z0 : ((rest.length : Int) == 0) = false := by rw [beq_eq_false_iff_ne]; omega
      by_cases h255 : b0 = 255
      · have h1 : 1 < rest.length := by
          rcases Nat.lt_or_ge 1 rest.length with h | h
          · exact h
          · exact absurd h255 (hone (by omega))
        have z1 : ((rest.length : Int) == 1) = false := by rw [beq_eq_false_iff_ne]; omega
        have hx1 := HX1.out h1
        rw [← show b1 = rd rest 1 from HB1E.out] at hx1
        subst h255
        by_cases hz : b1 = 0
        · subst hz
          have hmz : m = 0 := by rw [HM2.out]; simp
          subst hmz
          go_wp2
          go_meet
          case rel => exact ⟨rfl, rfl⟩
        · have hmz : m = b1 := by rw [HM2.out]; simp [hz]
          subst hmz
          go_wp2
          go_meet
          case rel => exact ⟨by first | rfl | (congr 1; omega), rfl⟩
      · have hmz : m = 0 := by rw [HM2.out]; simp [h255]
        subst hmz
        have z2 : (b0 == 255) = false := by simp [h255]
        by_cases h1 : rest.length = 1
        · have z1 : ((rest.length : Int) == 1) = true := by simp [h1]
          clear h1
          go_wp2
          go_meet
          case rel => exact ⟨rfl, rfl⟩
        · have z1 : ((rest.length : Int) == 1) = false := by rw [beq_eq_false_iff_ne]; omega
          go_wp2
          go_meet
          case rel => exact ⟨rfl, rfl⟩

    case rest =>
      obtain ⟨rfl, rfl⟩ := hcut
      by_cases h254 : m = 254
      · exact absurd h254 HE2.out.2.1
      · have hz254 : (m == 254) = false := by simp [h254]
        obtain ⟨_, v2, hk2, hs2, _⟩ := HSG.out
        obtain ⟨Al2, cl2, e2⟩ := Kd.S_slice hs2
        subst e2
        have j2 := blk_cell hk2 2
        simp at j2
        have HSR := Kd.S_reads' hs2
        have HSC := Aside0.mk HSR.2.2
        have HSL := Aside0.mk HSR.2.1
        have HK2 := Aside0.mk hk2
        have HS2 := Aside0.mk hs2
        have HMR := Aside0.mk (mayRun_val l hl)
        have HMS := Aside0.mk (mayRest_val l hl)
        have HIR := Aside0.mk (isRest_val m)
        clear hk2 hs2 HSR
        have hR4 : R = if badM m l then (false, 4, (at_ : Int), at_, l) else if l.length = 300 then (false, 6, (at_ : Int), at_, l)
            else if m = 0 then (if 20000 < (un rest).1.length then (false, 5, (at_ : Int), at_, l) else (false, 0, 0, at_ + (un rest).2, l ++ [⟨0, (un rest).1⟩]))
            else if isRest m then (false, 0, 0, at_ + 2, l ++ [⟨m, []⟩]) else if rest.length < 4 then (false, 3, (b.length : Int), at_, l) else if 20000 < lenM rest then (false, 5, (at_ : Int), at_, l)
            else if (rest.length : Int) < 4 + lenM rest then (false, 3, (b.length : Int), at_, l) else (false, 0, 0, at_ + 4 + (lenM rest).toNat, l ++ [⟨m, (rest.drop 4).take (lenM rest).toNat⟩]) := by
          rw [HR3.out, if_neg h254]
        have HR4 := Aside0.mk hR4
        clear hR4 HR3
        go_upto_block 1 with (fail)
        go_cut [] from 11 (fun wx => Aside0 (SegK w0 wx g gq A c b at_ l) ∧ Aside0 (wx.heap[gr]? = some (.cells #[.int .i64 0, .int .i64 0] 65 (0, 0))) ∧ Aside0 (badM m l = false) ∧ l.length ≠ 300)
        case first =>

          by_cases h247 : 247 < m
          · exact absurd HE2.out.2.2.1 (by simp [badM, h247])
          · by_cases hm0 : m = 0
            · subst hm0
              cases hmr : mayRunM l with
              | false =>
                exact absurd HE2.out.2.2.1 (by simp [badM, hmr])
              | true =>
                have hbad : badM 0 l = false := by simp [badM, hmr, isRest]
                have HBAD := Aside0.mk hbad
                have hir0 : isRest 0 = false := by decide
                rw [hmr] at HMR
                rw [hir0] at HIR
                clear hbad hmr hir0
                go_wp2_with fail
                refine (impl_mayRun.calls Al2 cl2 l true _ (Kd.C_drewN HSC.out 0) HSL.out HMR.out).mono ?_
                rintro e_ w_ ⟨rfl, ⟨n1, rfl⟩⟩
                go_wp2_with fail
                refine (impl_isRestart.calls 0 false _ HIR.out).mono ?_
                rintro e_ w_ ⟨rfl, ⟨n2, rfl⟩⟩
                by_cases h300 : l.length = 300
                · exact absurd h300 HE2.out.2.2.2
                · have h3b : ((l.length : Int) == 300) = false := by rw [beq_eq_false_iff_ne]; omega
                  go_wp2
                  go_meet
                  case rel => exact ⟨⟨HSG.out.drewN _⟩, ⟨HR2.out⟩, HBAD, h300⟩
            · have hm0b : (m == 0) = false := by simp [hm0]
              cases hir : isRest m with
              | false =>
                have hbad : badM m l = false := by simp [badM, h247, hm0, hir]
                have HBAD := Aside0.mk hbad
                rw [hir] at HIR
                clear hbad hir
                go_wp2_with fail
                refine (impl_isRestart.calls m false _ HIR.out).mono ?_
                rintro e_ w_ ⟨rfl, ⟨n2, rfl⟩⟩
                by_cases h300 : l.length = 300
                · exact absurd h300 HE2.out.2.2.2
                · have h3b : ((l.length : Int) == 300) = false := by rw [beq_eq_false_iff_ne]; omega
                  go_wp2
                  go_meet
                  case rel => exact ⟨⟨HSG.out.drewN _⟩, ⟨HR2.out⟩, HBAD, h300⟩
              | true =>
                cases hmr : mayRestM l with
                | false =>
                  exact absurd HE2.out.2.2.1 (by simp [badM, hir, hmr])
                | true =>
                  have hbad : badM m l = false := by simp [badM, h247, hm0, hmr]
                  have HBAD := Aside0.mk hbad
                  rw [hir] at HIR
                  rw [hmr] at HMS
                  clear hbad hir hmr
                  go_wp2_with fail
                  refine (impl_isRestart.calls m true _ HIR.out).mono ?_
                  rintro e_ w_ ⟨rfl, ⟨n2, rfl⟩⟩
                  go_wp2_with fail
                  refine (impl_mayRestart.calls Al2 cl2 l true _ (Kd.C_drewN HSC.out _) HSL.out HMS.out).mono ?_
                  rintro e_ w_ ⟨rfl, ⟨n3, rfl⟩⟩
                  by_cases h300 : l.length = 300
                  · exact absurd h300 HE2.out.2.2.2
                  · have h3b : ((l.length : Int) == 300) = false := by rw [beq_eq_false_iff_ne]; omega
                    go_wp2
                    go_meet
                    case rel => exact ⟨⟨HSG.out.drewN _⟩, ⟨HR2.out⟩, HBAD, h300⟩

        case rest =>
          obtain ⟨HSG3, HRF, HBAD, h300⟩ := hcut
          have hR5 : R = if m = 0 then (if 20000 < (un rest).1.length then (false, 5, (at_ : Int), at_, l) else (false, 0, 0, at_ + (un rest).2, l ++ [⟨0, (un rest).1⟩]))
              else if isRest m then (false, 0, 0, at_ + 2, l ++ [⟨m, []⟩]) else if rest.length < 4 then (false, 3, (b.length : Int), at_, l) else if 20000 < lenM rest then (false, 5, (at_ : Int), at_, l)
              else if (rest.length : Int) < 4 + lenM rest then (false, 3, (b.length : Int), at_, l) else (false, 0, 0, at_ + 4 + (lenM rest).toNat, l ++ [⟨m, (rest.drop 4).take (lenM rest).toNat⟩]) := by
            rw [HR4.out, HBAD.out, if_neg (by decide), if_neg h300]
          have HR5 := Aside0.mk hR5
          clear hR5 HR4 HSG HR2 HRC1 j0 j1 r0 r1 f0 f1 hx0 j2 HSC HSL HK2 HS2 HMR HMS hz254
          go_upto_block 2 with (fail)
          obtain ⟨hb3, v3, hk3, hs3, hq3⟩ := HSG3.out
          obtain ⟨Al3, cl3, e3⟩ := Kd.S_slice hs3
          subst e3
          have kb := blk_new wc (Obj.cells #[.int .i64 m, .slice none 0 0] 131)
          have KG := Aside0.mk (blk_alloc hk3 (Obj.cells #[.int .i64 m, .slice none 0 0] 131))
          have KQ := Aside0.mk (blk_alloc hq3 (Obj.cells #[.int .i64 m, .slice none 0 0] 131))
          have hsq : gq < wc.heap.size := blk_lt hq3
          have KR := Aside0.mk (blk_alloc HRF.out (Obj.cells #[.int .i64 m, .slice none 0 0] 131))
          have HB6 := Aside0.mk (below_alloc hb3 (Obj.cells #[.int .i64 m, .slice none 0 0] 131))
          have HS6 := Aside0.mk (Kd.S_mono (ok' := fun k => k < wc.heap.size) (Kd.S_alloc (Kd.S_bound hs3) (Obj.cells #[.int .i64 m, .slice none 0 0] 131)) (fun k hk => hk.2.2.1))
          have hsg : g < wc.heap.size := blk_lt hk3
          have hsr : gr < wc.heap.size := blk_lt HRF.out
          have hs0 : w0.heap.size ≤ wc.heap.size := hb3.size
          have hW6s : (wc.alloc (Obj.cells #[.int .i64 m, .slice none 0 0] 131)).heap.size = wc.heap.size + 1 := World.size_alloc ..
          have HRC6 := Aside0.mk (Kd.C_below HRC.out HB6.out)
          generalize wc.heap.size = gs at kb HS6 hsg hsr hsq hs0 hW6s ⊢
          generalize wc.alloc (Obj.cells #[.int .i64 m, .slice none 0 0] 131) = W6 at kb KG KR KQ HB6 HS6 hW6s HRC6 ⊢
          have KB := Aside0.mk kb
          have HW6 := Aside0.mk hW6s
          clear hb3 hk3 hs3 hq3 HSG3 HRF kb hW6s
          go_cut [] from 11 (fun wx => ∃ (n2 : Nat) (d : List Int) (vd : Value), Aside0 (R = (false, 0, 0, n2, l ++ [⟨m, d⟩])) ∧ Aside0 (wx.heap[gs]? = some (.cells #[.int .i64 m, vd] 131 (0, 0))) ∧ Aside0 (wx.heap[g]? = some (.cells #[.slice A b.length c, .int .i64 (n2 : Int), .slice Al3 l.length cl3] 136 (0, 0))) ∧ Aside0 (wx.heap[gr]? = some (.cells #[.int .i64 0, .int .i64 0] 65 (0, 0))) ∧ Aside0 (wx.heap[gq]? = some (.cells #[.int .i64 0, .int .i64 0] 65 (0, 0))) ∧
            Aside0 (Below w0.heap.size w0 wx) ∧ Aside0 (Kd.S k131 131 wx w0.heap.size (fun k => k < gs) (.slice Al3 l.length cl3) l) ∧ Aside0 (Kd.R (Kd.int .u8) 5 wx w0.heap.size (fun k => gs < k) vd d))
          case first =>

            have s0 := blk_cell KG.out 0
            have s1 := blk_cell KG.out 1
            simp at s0 s1
            have t0 := blk_cell KR.out 0
            have t1 := blk_cell KR.out 1
            simp at t0 t1
            have q0 := blk_frozen KR.out 0
            have q1 := blk_frozen KR.out 1
            have q2 := blk_frozen KG.out 1
            have q3 := blk_frozen KB.out 1
            have b1c := blk_cell KB.out 1
            simp at b1c
            by_cases hm0 : m = 0
            · exact absurd hm0 HKM.out.1
            · have hm0b : (m == 0) = false := by simp [hm0]
              cases hir : isRest m with
              | true =>
                rw [HKM.out.2] at hir
                cases hir
              | false =>
                have hR6 : R = if rest.length < 4 then (false, 3, (b.length : Int), at_, l) else if 20000 < lenM rest then (false, 5, (at_ : Int), at_, l)
                    else if (rest.length : Int) < 4 + lenM rest then (false, 3, (b.length : Int), at_, l) else (false, 0, 0, at_ + 4 + (lenM rest).toNat, l ++ [⟨m, (rest.drop 4).take (lenM rest).toNat⟩]) := by
                  rw [HR5.out, if_neg hm0, hir, if_neg (by decide)]
                have HR6 := Aside0.mk hR6
                rw [hir] at HIR
                clear hR6 hir
                go_wp2_with fail
                refine (impl_isRestart.calls m false _ HIR.out).mono ?_
                rintro e_ w_ ⟨rfl, ⟨n2, rfl⟩⟩
                have KG2 : Aside0 ((W6.drewN n2).heap[g]? = some (.cells #[.slice A b.length c, .int .i64 (at_ : Int), .slice Al3 l.length cl3] 136 (0, 0))) := ⟨KG.out⟩
                have KR2 : Aside0 ((W6.drewN n2).heap[gr]? = some (.cells #[.int .i64 0, .int .i64 0] 65 (0, 0))) := ⟨KR.out⟩
                have KQ2 : Aside0 ((W6.drewN n2).heap[gq]? = some (.cells #[.int .i64 0, .int .i64 0] 65 (0, 0))) := ⟨KQ.out⟩
                have KB2 : Aside0 ((W6.drewN n2).heap[gs]? = some (.cells #[.int .i64 m, .slice none 0 0] 131 (0, 0))) := ⟨KB.out⟩
                have HB7 := Aside0.mk (pw_below_drewN HB6.out n2)
                have HS7 := Aside0.mk (Kd.S_drewN HS6.out n2)
                have HRC7 := Aside0.mk (Kd.C_drewN HRC6.out n2)
                have HW7 : Aside0 ((W6.drewN n2).heap.size = gs + 1) := ⟨HW6.out⟩
                clear s0 s1 t0 t1 q0 q1 q2 q3 b1c KG KR KQ KB HB6 HS6 HRC6 HW6
                generalize W6.drewN n2 = W7 at KG2 KR2 KQ2 KB2 HB7 HS7 HRC7 HW7 ⊢
                have s0 := blk_cell KG2.out 0
                have s1 := blk_cell KG2.out 1
                simp at s0 s1
                have t0 := blk_cell KR2.out 0
                have t1 := blk_cell KR2.out 1
                simp at t0 t1
                have q0 := blk_frozen KR2.out 0
                have q1 := blk_frozen KR2.out 1
                have q2 := blk_frozen KG2.out 1
                have q3 := blk_frozen KB2.out 1
                have b1c := blk_cell KB2.out 1
                simp at b1c
                have hseg : SegK w0 W7 g gq A c b at_ l := ⟨HB7.out, _, KG2.out, Kd.S_mono HS7.out (fun _ _ => trivial), KQ2.out⟩
                have HSEG := Aside0.mk hseg
                clear hseg
                have hrl2 : rest.length ≤ 60000 := by have := HRL.out; omega
                by_cases h4 : rest.length < 4
                · have hRe : R = (false, 3, (b.length : Int), at_, l) := by rw [HR6.out, if_pos h4]
                  subst hRe
                  go_wp2
                  go_region
                  go_wp2
                  obtain ⟨e1_, e2_⟩ := SegK.fin HSEG.out KR2.out hgr hqr hgw (.int .i64 3) (.int .i64 b.length)
                  refine bodyPost_ret (results_list (rs := [.tmp 2, .cell 3 65]) rfl (by simp) (.tmp (.cell gr 65 #[.int .i64 3, .int .i64 b.length] (0, 0) _ rfl (by exact e2_) Try.underlying65 rfl (by kernel_rfl) .nil))) rfl ?_
                  exact ⟨rfl, by first | exact e1_.drew | exact e1_⟩
                · have hc4 : ∀ i : Nat, 0 < i → i < rest.length → W7.cell? ⟨ad.block, ad.off + i, none⟩ = some (.int .u8 (rd rest i)) := fun i h0 h => by
                    obtain ⟨ad', q2, hx⟩ := Kd.at_int HRC7.out (i : Int) (by omega) (by omega)
                    cases q2
                    have e := add_field ad 0 i h0
                    rw [Nat.zero_add, Addr.add_zero'] at e
                    rw [Int.toNat_natCast, e] at hx
                    exact hx
                  have c2_ := hc4 2 (by omega) (by omega)
                  have c3_ := hc4 3 (by omega) (by omega)
                  obtain ⟨y2, hy2⟩ : ∃ y, y = rd rest 2 := ⟨_, rfl⟩
                  obtain ⟨y3, hy3⟩ : ∃ y, y = rd rest 3 := ⟨_, rfl⟩
                  rw [show ((2 : Nat) : Int) = 2 from rfl, ← hy2] at c2_
                  rw [show ((3 : Nat) : Int) = 3 from rfl, ← hy3] at c3_
                  have hb23 : (0 ≤ y2 ∧ y2 ≤ 255) ∧ (0 ≤ y3 ∧ y3 ≤ 255) := by
                    rw [hy2, hy3]
                    match rest, h4 with
                    | [], h4 => simp at h4
                    | [_], h4 => simp at h4
                    | [_, _], h4 => simp at h4
                    | [_, _, _], h4 => simp at h4
                    | p0 :: p1 :: p2 :: p3 :: t, _ => exact ⟨HRB.out p2 (by simp), HRB.out p3 (by simp)⟩
                  obtain ⟨⟨y20, y21⟩, y30, y31⟩ := hb23
                  have hor := or_byte y2 y3 y20 (by omega) y30 y31
                  have hln : lenM rest = y2 * 256 + y3 := by rw [lenM, hy2, hy3]
                  rw [hln] at HR6
                  clear hc4 hy2 hy3 hln
                  go_wp2
                  go_quiet (fail)
                  obtain ⟨n, hn⟩ : ∃ n : Nat, y2 * 256 + y3 = (n : Int) := ⟨(y2 * 256 + y3).toNat, by omega⟩
                  rw [hn]
                  rw [hn] at HR6
                  rw [Int.toNat_natCast] at HR6
                  clear hor hn c2_ c3_
                  by_cases h20 : 20000 < (n : Int)
                  · have hRe : R = (false, 5, (at_ : Int), at_, l) := by rw [HR6.out, if_neg h4, if_pos h20]
                    subst hRe
                    go_wp2
                    obtain ⟨e1_, e2_⟩ := SegK.fin (HSEG.out.drewN nq) (show (W7.drewN nq).heap[gr]? = some (.cells #[.int .i64 0, .int .i64 0] 65 (0, 0)) from KR2.out) hgr hqr hgw (.int .i64 5) (.int .i64 at_)
                    refine bodyPost_ret (results_list (rs := [.tmp 2, .cell 3 65]) rfl (by simp) (.tmp (.cell gr 65 #[.int .i64 5, .int .i64 at_] (0, 0) _ rfl (by exact e2_) Try.underlying65 rfl (by kernel_rfl) .nil))) rfl ?_
                    exact ⟨rfl, by first | exact e1_.drew | exact e1_⟩
                  · by_cases h4n : (rest.length : Int) < 4 + n
                    · have hRe : R = (false, 3, (b.length : Int), at_, l) := by rw [HR6.out, if_neg h4, if_neg h20, if_pos h4n]
                      subst hRe
                      go_wp2
                      go_region
                      go_wp2
                      obtain ⟨e1_, e2_⟩ := SegK.fin (HSEG.out.drewN nq) (show (W7.drewN nq).heap[gr]? = some (.cells #[.int .i64 0, .int .i64 0] 65 (0, 0)) from KR2.out) hgr hqr hgw (.int .i64 3) (.int .i64 b.length)
                      refine bodyPost_ret (results_list (rs := [.tmp 2, .cell 3 65]) rfl (by simp) (.tmp (.cell gr 65 #[.int .i64 3, .int .i64 b.length] (0, 0) _ rfl (by exact e2_) Try.underlying65 rfl (by kernel_rfl) .nil))) rfl ?_
                      exact ⟨rfl, by first | exact e1_.drew | exact e1_⟩
                    · have hRe : R = (false, 0, 0, at_ + 4 + n, l ++ [⟨m, (rest.drop 4).take n⟩]) := by rw [HR6.out, if_neg h4, if_neg h20, if_neg h4n]
                      have HRE := Aside0.mk hRe
                      clear hRe
                      have hcc := HRCC.out
                      have hln4 : ((rest.drop 4).take n).length = n := by rw [List.length_take, List.length_drop]; omega
                      have HLN := Aside0.mk hln4
                      have HCT := Aside0.mk (Kd.C_take (m := n) (Kd.C_drop (m := 4) (c := cr) HRC7.out (by omega) HRCC.out) (by rw [List.length_drop]; omega))
                      by_cases hcr : cr = 4
                      · have HC8 : Aside0 (Kd.C (Kd.int .u8) (W7.drewN nq) (some ad) ((rest.drop 4).take n).length ((rest.drop 4).take n)) := by
                          have h9 := HCT.out
                          rw [if_pos hcr] at h9
                          exact ⟨Kd.C_drewN h9 nq⟩
                        subst hcr
                        clear hln4 HCT
                        go_wp2_with fail
                        rw [show (Value.slice (some ad) n 0) = Value.slice (some ad) ((rest.drop 4).take n).length (4 - 4) by rw [HLN.out]]
                        refine (clone_calls (some ad) (4 - 4) ((rest.drop 4).take n) _ HC8.out (by rw [HLN.out]; omega) (by rw [HLN.out]; omega)).mono ?_
                        rintro e_ w2 ⟨vd, rfl, hd, hb2⟩
                        obtain ⟨Ad, cd, ed⟩ := Kd.R_slice hd
                        subst ed
                        obtain ⟨dd, hdd⟩ : ∃ dd, dd = (rest.drop 4).take n := ⟨_, rfl⟩
                        rw [← hdd] at HRE hd
                        have HD := Aside0.mk (Kd.R_mono (ok' := fun k => gs < k) (Kd.R_lower (Kd.R_bound hd) (show w0.heap.size ≤ (W7.drewN nq).heap.size by have := HW7.out; show w0.heap.size ≤ W7.heap.size; omega)) (fun k hk => by have h1 := hk.2.1; have h2 : (W7.drewN nq).heap.size = gs + 1 := HW7.out; omega))
                        have KG8 := Aside0.mk (blk_below (w := W7.drewN nq) KG2.out hb2)
                        have KR8 := Aside0.mk (blk_below (w := W7.drewN nq) KR2.out hb2)
                        have KQ8 := Aside0.mk (blk_below (w := W7.drewN nq) KQ2.out hb2)
                        have KB8 := Aside0.mk (blk_below (w := W7.drewN nq) KB2.out hb2)
                        have HB8 := Aside0.mk (Below.trans (pw_below_drewN HB7.out nq) (hb2.mono (pw_below_drewN HB7.out nq).size))
                        have HS8 := Aside0.mk (Kd.S_below (Kd.S_drewN HS7.out nq) hb2)
                        rw [← hdd]
                        clear hd hb2 hdd s0 s1 t0 t1 q0 q1 q2 q3 b1c
                        have s1 := blk_cell KG8.out 1
                        simp at s1
                        have b1c := blk_cell KB8.out 1
                        simp at b1c
                        have q2 := blk_frozen KG8.out 1
                        have q3 := blk_frozen KB8.out 1
                        have hnsg : ¬ gs = g := by omega
                        have hngs : ¬ g = gs := by omega
                        go_wp2
                        go_meet
                        case rel =>
                          refine ⟨at_ + 4 + n, dd, .slice Ad dd.length cd, HRE, ⟨blk_far (blk_set KB8.out 1 _) (by show gs ≠ g; omega) _⟩, ⟨blk_set (blk_far KG8.out (by show g ≠ gs; omega) _) 1 _⟩, ⟨blk_far (blk_far KR8.out (by show gr ≠ gs; omega) _) (by show gr ≠ g; omega) _⟩, ⟨blk_far (blk_far KQ8.out (by show gq ≠ gs; omega) _) hqg _⟩, ⟨below_set (below_set HB8.out hs0) hg⟩, ⟨?_⟩, ⟨?_⟩⟩
                          · exact Kd.S_mono (Kd.S_far (p := ⟨g, 1, none⟩) (Kd.S_far (p := ⟨gs, 1, none⟩) (Kd.S_types HS8.out KG8.out (by decide)) (fun k hk => by show k ≠ gs; have := hk.1; omega) _) (fun k hk => hk.2) _) (fun k hk => hk.1)
                          · exact Kd.R_mono (Kd.R_far (p := ⟨g, 1, none⟩) (Kd.R_far (p := ⟨gs, 1, none⟩) (Kd.R_types HD.out KG8.out (by decide)) (fun k hk => by show k ≠ gs; have := hk.1; omega) _) (fun k hk => hk.2) _) (fun k hk => hk.1)
                      · have HC8 : Aside0 (Kd.C (Kd.int .u8) (W7.drewN nq) (some ⟨ad.block, ad.off + 4, none⟩) ((rest.drop 4).take n).length ((rest.drop 4).take n)) := by
                          have h9 := HCT.out
                          rw [if_neg hcr] at h9
                          have e := add_field ad 0 4 (by omega)
                          rw [Nat.zero_add, Addr.add_zero'] at e
                          simp only [Option.map_some] at h9
                          rw [show 4 * (Kd.int IntKind.u8).sz = 4 from rfl, e] at h9
                          exact ⟨Kd.C_drewN h9 nq⟩
                        clear hln4 HCT
                        go_wp2_with fail
                        rw [show (Value.slice (some ⟨ad.block, ad.off + 4, none⟩) n (cr - 4)) = Value.slice (some ⟨ad.block, ad.off + 4, none⟩) ((rest.drop 4).take n).length (cr - 4) by rw [HLN.out]]
                        refine (clone_calls (some ⟨ad.block, ad.off + 4, none⟩) (cr - 4) ((rest.drop 4).take n) _ HC8.out (by rw [HLN.out]; omega) (by rw [HLN.out]; omega)).mono ?_
                        rintro e_ w2 ⟨vd, rfl, hd, hb2⟩
                        obtain ⟨Ad, cd, ed⟩ := Kd.R_slice hd
                        subst ed
                        obtain ⟨dd, hdd⟩ : ∃ dd, dd = (rest.drop 4).take n := ⟨_, rfl⟩
                        rw [← hdd] at HRE hd
                        have HD := Aside0.mk (Kd.R_mono (ok' := fun k => gs < k) (Kd.R_lower (Kd.R_bound hd) (show w0.heap.size ≤ (W7.drewN nq).heap.size by have := HW7.out; show w0.heap.size ≤ W7.heap.size; omega)) (fun k hk => by have h1 := hk.2.1; have h2 : (W7.drewN nq).heap.size = gs + 1 := HW7.out; omega))
                        have KG8 := Aside0.mk (blk_below (w := W7.drewN nq) KG2.out hb2)
                        have KR8 := Aside0.mk (blk_below (w := W7.drewN nq) KR2.out hb2)
                        have KQ8 := Aside0.mk (blk_below (w := W7.drewN nq) KQ2.out hb2)
                        have KB8 := Aside0.mk (blk_below (w := W7.drewN nq) KB2.out hb2)
                        have HB8 := Aside0.mk (Below.trans (pw_below_drewN HB7.out nq) (hb2.mono (pw_below_drewN HB7.out nq).size))
                        have HS8 := Aside0.mk (Kd.S_below (Kd.S_drewN HS7.out nq) hb2)
                        rw [← hdd]
                        clear hd hb2 hdd s0 s1 t0 t1 q0 q1 q2 q3 b1c
                        have s1 := blk_cell KG8.out 1
                        simp at s1
                        have b1c := blk_cell KB8.out 1
                        simp at b1c
                        have q2 := blk_frozen KG8.out 1
                        have q3 := blk_frozen KB8.out 1
                        have hnsg : ¬ gs = g := by omega
                        have hngs : ¬ g = gs := by omega
                        go_wp2
                        go_meet
                        case rel =>
                          refine ⟨at_ + 4 + n, dd, .slice Ad dd.length cd, HRE, ⟨blk_far (blk_set KB8.out 1 _) (by show gs ≠ g; omega) _⟩, ⟨blk_set (blk_far KG8.out (by show g ≠ gs; omega) _) 1 _⟩, ⟨blk_far (blk_far KR8.out (by show gr ≠ gs; omega) _) (by show gr ≠ g; omega) _⟩, ⟨blk_far (blk_far KQ8.out (by show gq ≠ gs; omega) _) hqg _⟩, ⟨below_set (below_set HB8.out hs0) hg⟩, ⟨?_⟩, ⟨?_⟩⟩
                          · exact Kd.S_mono (Kd.S_far (p := ⟨g, 1, none⟩) (Kd.S_far (p := ⟨gs, 1, none⟩) (Kd.S_types HS8.out KG8.out (by decide)) (fun k hk => by show k ≠ gs; have := hk.1; omega) _) (fun k hk => hk.2) _) (fun k hk => hk.1)
                          · exact Kd.R_mono (Kd.R_far (p := ⟨g, 1, none⟩) (Kd.R_far (p := ⟨gs, 1, none⟩) (Kd.R_types HD.out KG8.out (by decide)) (fun k hk => by show k ≠ gs; have := hk.1; omega) _) (fun k hk => hk.2) _) (fun k hk => hk.1)

          case rest =>
            obtain ⟨n2, d, vd, HRE, KB9, KG9, KR9, KQ9, HB9, HS9, HD9⟩ := hcut
            have hRe := HRE.out
            subst hRe
            obtain ⟨Ad, cd, ed⟩ := Kd.R_slice HD9.out
            subst ed
            have s0 := blk_cell KG9.out 0
            have s2 := blk_cell KG9.out 2
            simp at s0 s2
            have q4 := blk_frozen KG9.out 2
            have b0c := blk_cell KB9.out 0
            have b1c := blk_cell KB9.out 1
            simp at b0c b1c
            have t0 := blk_cell KR9.out 0
            have t1 := blk_cell KR9.out 1
            simp at t0 t1
            have s2a : ∀ o : Obj, (wc.alloc o).cell? ⟨g, 2, none⟩ = some (.slice Al3 l.length cl3) := fun o => (World.cell?_alloc_lt _ _ _ (blk_lt KG9.out)).trans s2
            have b0a : ∀ o : Obj, (wc.alloc o).cell? ⟨gs, 0, none⟩ = some (.int .i64 m) := fun o => (World.cell?_alloc_lt _ _ _ (blk_lt KB9.out)).trans b0c
            have b1a : ∀ o : Obj, (wc.alloc o).cell? ⟨gs, 1, none⟩ = some (.slice Ad d.length cd) := fun o => (World.cell?_alloc_lt _ _ _ (blk_lt KB9.out)).trans b1c
            have HOK := Aside0.mk (show ∀ k, gs < k → True ∧ some k ≠ (Value.slice Al3 l.length cl3).ownBlock from fun k hk => ⟨trivial, fun e => absurd (S_ok2 HS9.out k e.symm) (by omega)⟩)
            have HO9 := Aside0.mk (Kd.S_mono (ok' := fun k => True ∧ ¬ gs < k) HS9.out (fun k hk => ⟨trivial, by omega⟩))
            clear HRE
            go_upto_region 31 with (fail)
            go_region_law (refine Kd.S_append_step k131 (w0 := w0) (W := wc.drew) w0.heap.size (by rfl) (.tmp 195) (.tmp 197) 63 131 (.agg #[.int .i64 0, .slice none 0 0]) 32 (by rfl) Try.underlying63 info131 (by rfl) (by decide) (by decide) (.slice Al3 l.length cl3) l ⟨m, d⟩ [.int .i64 m, .slice Ad d.length cd] (fun _ => True) (fun k => gs < k) (by rfl) (by rfl) (k131_mkM _ _ _ _ (Kd.R_drew HD9.out)) HOK.out (fun _ _ => trivial) (Kd.S_drew HO9.out) (below_drew HB9.out) HB9.out.size (by omega) ?_; intro v8 w3 ho hb hg_ hat; obtain ⟨A8, c8, e8⟩ := Kd.S_slice ho; subst e8; have HO3 := Aside0.mk ho; have HB3 := Aside0.mk hb; have HG3 := Aside0.mk hg_; clear ho hb hg_ hat; have i1 := blk_grown (w := wc.drew) KG9.out HG3.out (Kd.S_ne (Kd.S_drew HS9.out) KG9.out (by decide)); have i2 := blk_grown (w := wc.drew) KR9.out HG3.out (Kd.S_ne (Kd.S_drew HS9.out) KR9.out (by decide)); have d3 := blk_cell i1 2; simp at d3; have e3 := blk_frozen i1 2; have I1 := Aside0.mk i1; have I2 := Aside0.mk i2; have I3 := Aside0.mk (blk_grown (w := wc.drew) KQ9.out HG3.out (Kd.S_ne (Kd.S_drew HS9.out) KQ9.out (by decide))); clear i1 i2)
            all_goals
              have hl1 : (l ++ [(⟨m, d⟩ : S131)]).length = l.length + 1 := by simp
              have ho3 := HO3.out
              rw [hl1] at ho3
              have hseg : SegK w0 (w3.setCell ⟨g, 2, none⟩ (.slice A8 (l.length + 1) c8)) g gq A c b n2 (l ++ [⟨m, d⟩]) := ⟨below_set HB3.out hg, _, blk_set I1.out 2 _, Kd.S_set ho3 I1.out (by decide) 2 _, blk_far I3.out hqg _⟩
              have hr9 := blk_far I2.out (p := ⟨g, 2, none⟩) (fun e => hgr e.symm) (.slice A8 (l.length + 1) c8)
              have HSEG := Aside0.mk hseg
              have HR9 := Aside0.mk hr9
              clear hseg hr9 ho3 hl1
              generalize w3.setCell ⟨g, 2, none⟩ (.slice A8 (l.length + 1) c8) = W9 at HSEG HR9 ⊢
              have u0 := blk_cell HR9.out 0
              have u1 := blk_cell HR9.out 1
              simp at u0 u1
              have u2 := blk_frozen HR9.out 0
              have u3 := blk_frozen HR9.out 1
              go_wp2
              obtain ⟨e1_, e2_⟩ := SegK.fin HSEG.out HR9.out hgr hqr hgw (.int .i64 0) (.int .i64 0)
              refine bodyPost_ret (results_list (rs := [.tmp 2, .cell 3 65]) rfl (by simp) (.tmp (.cell gr 65 #[.int .i64 0, .int .i64 0] (0, 0) _ rfl (by exact e2_) Try.underlying65 rfl (by kernel_rfl) .nil))) rfl ?_
              exact ⟨rfl, by first | exact e1_.drew | exact e1_⟩
theorem next_calls (w0 W : World) (g gq : Nat) (A : Option Addr) (c : Nat) (b : List Int) (at_ : Nat) (l : List S131) (h : SegK w0 W g gq A c b at_ l) (hg : w0.heap.size ≤ g) (hqg : gq ≠ g) (hC : Kd.C (Kd.int .u8) w0 A b.length b) (hc : b.length ≤ c) (hat : at_ ≤ b.length) (hlen : b.length ≤ 60000) (hB : ∀ x ∈ b, 0 ≤ x ∧ x ≤ 255) (hl : l.length ≤ 300) :
    Calls Try.prog 133 #[.pointer (some ⟨g, 0, none⟩)] W fun e w' => e = .returned (.tuple #[.bool (nxt b at_ l).1, .agg #[.int .i64 (nxt b at_ l).2.1, .int .i64 (nxt b at_ l).2.2.1]]) ∧ SegK w0 w' g gq A c b (nxt b at_ l).2.2.2.1 (nxt b at_ l).2.2.2.2 := by
  by_cases hE : (¬ (b.drop at_ = [] ∨ b.drop at_ = [255]) ∧ markM (b.drop at_) ≠ 254 ∧ badM (markM (b.drop at_)) l = false ∧ l.length ≠ 300)
  · by_cases h0 : markM (b.drop at_) = 0
    · exact next_calls_b1 w0 W g gq A c b at_ l h hg hqg hC hc hat hlen hB hl hE h0
    · cases hi : isRest (markM (b.drop at_)) with
      | true => exact next_calls_b2 w0 W g gq A c b at_ l h hg hqg hC hc hat hlen hB hl hE ⟨h0, hi⟩
      | false => exact next_calls_b3 w0 W g gq A c b at_ l h hg hqg hC hc hat hlen hB hl hE ⟨h0, hi⟩
  · exact next_calls_a w0 W g gq A c b at_ l h hg hqg hC hc hat hlen hB hl hE

end Go.Proofs.Ytcjjmfpkhhdmlaa.G
