import Derived.BigRegion
import Derived.Deep.CutRange
import Derived.Deep.RegionHeld3
import Derived.Deep.CutBlock
import Derived.Deep.RegionLaw
import Derived.Deep.LoopGhost
import Derived.Test.YtcjjmfpkhhdmlaaMFnSoFar1
set_option linter.unusedVariables false
set_option linter.unusedSimpArgs false
namespace Go.Proofs.Ytcjjmfpkhhdmlaa.G
open Go.RowKit Go.Proofs.YtcjjmfpkhhdmlaaW.PrintWords Go.Proofs.YtcjjmfpkhhdmlaaW.PrintLast Go.Proofs.YtcjjmfpkhhdmlaaW.PrintMore
attribute [local go_sem] max2_int min2_int max_two min_two max_three min_three max_four min_four   -- for this text's walks alone
--import Derived.BigRegion
--import Derived.Deep.CutRange
--import Derived.Deep.RegionHeld3
--import Derived.Deep.CutBlock
--import Derived.Deep.RegionLaw
def SegK (w0 W : World) (g gq : Nat) (A : Option Addr) (c : Nat) (b : List Int) (at_ : Nat) (l : List S131) : Prop :=
 Below w0.heap.size w0 W ∧ ∃ v, W.heap[g]? = some (.cells #[.slice A b.length c, .int .i64 (at_ : Int), v] 136 (0, 0)) ∧ Kd.S k131 131 W w0.heap.size (fun _ => True) v l ∧ W.heap[gq]? = some (.cells #[.int .i64 0, .int .i64 0] 65 (0, 0))
theorem SegK.fin {w0 W : World} {g gq gr : Nat} {A : Option Addr} {c : Nat} {b : List Int} {at_ : Nat} {l : List S131} (h : SegK w0 W g gq A c b at_ l) {x y : Value} (hr : W.heap[gr]? = some (.cells #[x, y] 65 (0, 0))) (hne : g ≠ gr) (hqr : gq ≠ gr) (hg : w0.heap.size ≤ gr) (C P : Value) :
  SegK w0 ((W.setCell ⟨gr, 0, none⟩ C).setCell ⟨gr, 1, none⟩ P) g gq A c b at_ l ∧ ((W.setCell ⟨gr, 0, none⟩ C).setCell ⟨gr, 1, none⟩ P).heap[gr]? = some (.cells #[C, P] 65 (0, 0)) := by
 obtain ⟨h1, v, h2, h3, h4⟩ := h
 refine ⟨⟨zE (zE h1 hg) hg, v, blk_far (blk_far h2 hne _) hne _, ?_, blk_far (blk_far h4 hqr _) hqr _⟩, ?_⟩
 ·exact yH (yI (p := ⟨gr, 1, none⟩) (yI (p := ⟨gr, 0, none⟩) (Kd.S_types h3 hr (by decide)) (fun k hk => hk.2) _) (fun k hk => hk.2) _) (fun _ _ => trivial)
 ·exact blk_set (blk_set hr 0 C) 1 P
theorem SegK.drewN {w0 W : World} {g gq : Nat} {A : Option Addr} {c : Nat} {b : List Int} {at_ : Nat} {l : List S131} (h : SegK w0 W g gq A c b at_ l) (n : Nat) : SegK w0 (W.drewN n) g gq A c b at_ l := by
 obtain ⟨h1, v, h2, h3, h4⟩ := h
 exact ⟨zB h1 n, v, h2, yF h3 n, h4⟩
theorem SegK.drew {w0 W : World} {g gq : Nat} {A : Option Addr} {c : Nat} {b : List Int} {at_ : Nat} {l : List S131} (h : SegK w0 W g gq A c b at_ l) : SegK w0 W.drew g gq A c b at_ l := by
 obtain ⟨h1, v, h2, h3, h4⟩ := h
 exact ⟨below_drew h1, v, h2, yG h3, h4⟩
theorem SegK.at_ {w0 W : World} {g gq : Nat} {A : Option Addr} {c : Nat} {b : List Int} {at_ : Nat} {l : List S131} (h : SegK w0 W g gq A c b at_ l) (hg : w0.heap.size ≤ g) (hqg : gq ≠ g) (n : Nat) : SegK w0 (W.setCell ⟨g, 1, none⟩ (.int .i64 (n : Int))) g gq A c b n l := by
 obtain ⟨h1, v, h2, h3, h4⟩ := h
 exact ⟨zE h1 hg, v, blk_set h2 1 _, Kd.S_set h3 h2 (by decide) 1 _, blk_far h4 hqg _⟩
theorem S_ok2 {α : Type} {d : Kd α} {e base : Nat} {w : World} {ok : Nat → Prop} {v : Value} {xs : List α} (h : Kd.S d e w base ok v xs) : ∀ k, v.ownBlock = some k → ok k := by
 obtain ⟨f, h0, _⟩ := h
 exact h0
theorem last_rd (l : List S131) (h : 0 < l.length) (h2 : l.length ≤ 300) : rd_T131 l (wrap64 ((l.length : Int) - 1)) = l.getLast (List.ne_nil_of_length_pos h) := by
 rw [wrap_in _ (by omega) (by omega)]
 unfold rd_T131
 rw [show ((l.length : Int) - 1).toNat = l.length - 1 by omega, List.getLast_eq_getElem]
 simp [show l.length - 1 < l.length by omega]
theorem mayRun_val (l : List S131) (h : l.length ≤ 300) : impl_mayRun.f l = some (mayRunM l) := by
 unfold impl_mayRun.f mayRunM
 by_cases hl : 0 < l.length
 ·rw [if_pos (by omega), if_pos (by rw [wrap_in _ (by omega) (by omega)]; omega), if_pos (by rw [wrap_in _ (by omega) (by omega)]; omega), last_rd l hl h, List.getLast?_eq_some_getLast (List.ne_nil_of_length_pos hl)]
 ·have : l = [] := List.eq_nil_of_length_eq_zero (by omega)
  subst this
  rfl
theorem mayRest_val (l : List S131) (h : l.length ≤ 300) : impl_mayRestart.f l = some (mayRestM l) := by
 unfold impl_mayRestart.f mayRestM
 by_cases hl : 0 < l.length
 ·rw [if_pos (by omega), if_pos (by rw [wrap_in _ (by omega) (by omega)]; omega), if_pos (by rw [wrap_in _ (by omega) (by omega)]; omega), last_rd l hl h, List.getLast?_eq_some_getLast (List.ne_nil_of_length_pos hl)]
 ·have : l = [] := List.eq_nil_of_length_eq_zero (by omega)
  subst this
  rfl
theorem isRest_val (m : Int) : impl_isRestart.f m = some (isRest m) := by
 unfold impl_isRestart.f isRest
 rw [impl_within.val]
 rfl
set_option maxRecDepth 100000 in
set_option maxHeartbeats 4000000 in
theorem next_calls_a (w0 W : World) (g gq : Nat) (A : Option Addr) (c : Nat) (b : List Int) (at_ : Nat) (l : List S131) (h : SegK w0 W g gq A c b at_ l) (hg : w0.heap.size ≤ g) (hqg : gq ≠ g) (hC : Kd.C (Kd.int .u8) w0 A b.length b) (hc : b.length ≤ c) (hat : at_ ≤ b.length) (hlen : b.length ≤ 60000) (hB : ∀ x ∈ b, 0 ≤ x ∧ x ≤ 255) (hl : l.length ≤ 300) (hE : ¬ (¬ (b.drop at_ = [] ∨ b.drop at_ = [255]) ∧ markM (b.drop at_) ≠ 254 ∧ badM (markM (b.drop at_)) l = false ∧ l.length ≠ 300)) :
  Calls Try.prog 133 #[.pointer (some ⟨g, 0, none⟩)] W fun e w' => e = .returned (.tuple #[.bool (nxt b at_ l).1, .agg #[.int .i64 (nxt b at_ l).2.1, .int .i64 (nxt b at_ l).2.2.1]]) ∧ SegK w0 w' g gq A c b (nxt b at_ l).2.2.2.1 (nxt b at_ l).2.2.2.2 := by
 obtain ⟨hbel, v, hk, hS, hq⟩ := h
 have HQ := zA hq
 have k0 := zK hk 0
 have k1 := zK hk 1
 have k2 := zK hk 2
 simp at k0 k1 k2
 obtain ⟨Al, cl, el⟩ := Kd.S_slice hS
 subst el
 have HBEL := zA hbel
 have HK := zA hk
 have HS := zA hS
 have HCB := zA hC
 have HCC := zA hc
 have HBB := zA hB
 have hatc : at_ ≤ c := by omega
 have HE := zA hE
 clear hE
 clear hbel hk hS hC hB hq
 obtain ⟨R, hR⟩ : ∃ R, R = nxt b at_ l := ⟨_, rfl⟩
 rw [← hR]
 have HRR := zA hR
 clear hR
 go_enter Try.func133, Try.ntmps133
 go_upto_region 1 with (fail)
 have hr := blk_new W (Obj.cells #[.int .i64 0, .int .i64 0] 65)
 have HK1 := zA (zD HK.out (Obj.cells #[.int .i64 0, .int .i64 0] 65))
 have HS1 := zA (yE HS.out (Obj.cells #[.int .i64 0, .int .i64 0] 65))
 have HB1 := zA (zC HBEL.out (Obj.cells #[.int .i64 0, .int .i64 0] 65))
 have hgr : g ≠ W.heap.size := by have := blk_lt HK.out; omega
 have hqr : gq ≠ W.heap.size := by have := blk_lt HQ.out; omega
 have HQ1 := zA (zD HQ.out (Obj.cells #[.int .i64 0, .int .i64 0] 65))
 have hgw : w0.heap.size ≤ W.heap.size := HBEL.out.size
 generalize W.heap.size = gr at hr hgr hqr hgw ⊢
 generalize W.alloc (Obj.cells #[.int .i64 0, .int .i64 0] 65) = W1 at hr HK1 HS1 HB1 HQ1 ⊢
 clear k0 k1 k2 HK HS HBEL HQ
 have k0 := zK HK1.out 0
 have k1 := zK HK1.out 1
 have k2 := zK HK1.out 2
 simp at k0 k1 k2
 have HR := zA hr
 clear hr
 go_wp2
 go_quiet (fail)
 go_upto_block 0 with (fail)
 obtain ⟨rest, hrest⟩ : ∃ rest, rest = b.drop at_ := ⟨_, rfl⟩
 have hrl : b.length - at_ = rest.length := by rw [hrest, zR]
 have hrc : Kd.C (Kd.int .u8) w0 (if c = at_ then A else A.map (·.add at_)) rest.length rest := by
  have h9 := Kd.C_drop HCB.out hat HCC.out
  rw [show (Kd.int IntKind.u8).sz = 1 from rfl] at h9
  simp only [Nat.mul_one] at h9
  rw [hrest]
  exact h9
 rw [hrl]
 generalize (if c = at_ then A else Option.map (fun x => x.add at_) A) = Ar at hrc ⊢
 have hrcc : rest.length ≤ c - at_ := by rw [← hrl]; omega
 have HRC := zA hrc
 have HRCC := zA hrcc
 have HREST := zA hrest
 have HRL := zA hrl
 have HRB := zA (show ∀ x ∈ rest, 0 ≤ x ∧ x ≤ 255 from fun x hx => HBB.out x (by rw [hrest] at hx; exact List.mem_of_mem_drop hx))
 have HSG : Aside0 (SegK w0 (W1.drewN nq) g gq A c b at_ l) := ⟨zB HB1.out nq, _, HK1.out, yF HS1.out nq, HQ1.out⟩
 have HR2 : Aside0 ((W1.drewN nq).heap[gr]? = some (.cells #[.int .i64 0, .int .i64 0] 65 (0, 0))) := ⟨HR.out⟩
 have HRC1 := zA (Kd.C_below hrc HSG.out.1)
 generalize hcr : c - at_ = cr at HRCC ⊢
 generalize W1.drewN nq = W2 at HSG HR2 HRC1 ⊢
 clear hrest hrl hrc hrcc HK1 HS1 HB1 HQ1 HR k0 k1 k2 hcr
 have j0 : W2.cell? ⟨g, 0, none⟩ = some (.slice A b.length c) := by obtain ⟨_, v, h2, _⟩ := HSG.out; exact zK h2 0
 have j1 : W2.cell? ⟨g, 1, none⟩ = some (.int .i64 (at_ : Int)) := by obtain ⟨_, v, h2, _⟩ := HSG.out; exact zK h2 1
 have r0 : W2.cell? ⟨gr, 0, none⟩ = some (.int .i64 0) := zK HR2.out 0
 have r1 : W2.cell? ⟨gr, 1, none⟩ = some (.int .i64 0) := zK HR2.out 1
 have f0 : W2.frozen? ⟨gr, 0, none⟩ = false := zJ HR2.out 0
 have f1 : W2.frozen? ⟨gr, 1, none⟩ = false := zJ HR2.out 1
 by_cases hend : rest = [] ∨ rest = [255]
 ·have hRe : R = (false, 3, (b.length : Int), at_, l) := by rw [HRR.out, nxt, ← HREST.out, if_pos hend]
  subst hRe
  rcases hend with he | he
  ·subst he
   go_wp2
   go_region
   go_wp2
   obtain ⟨e1_, e2_⟩ := SegK.fin HSG.out HR2.out hgr hqr hgw (.int .i64 3) (.int .i64 b.length)
   refine bodyPost_ret (results_list (rs := [.tmp 2, .cell 3 65]) rfl (by simp) (.tmp (.cell gr 65 #[.int .i64 3, .int .i64 b.length] (0, 0) _ rfl (by exact e2_) Try.underlying65 rfl (by kernel_rfl) .nil))) rfl ?_
   exact ⟨rfl, by first | exact e1_.drew | exact e1_⟩
  ·subst he
   obtain ⟨ad, q1, hx⟩ := Kd.at_int HRC1.out 0 (by omega) (by simp)
   cases q1
   rw [show (0 : Int).toNat = 0 from rfl, Addr.add_zero', show rd [255] 0 = 255 from rfl] at hx
   go_wp2
   go_region
   go_wp2
   obtain ⟨e1_, e2_⟩ := SegK.fin HSG.out HR2.out hgr hqr hgw (.int .i64 3) (.int .i64 b.length)
   refine bodyPost_ret (results_list (rs := [.tmp 2, .cell 3 65]) rfl (by simp) (.tmp (.cell gr 65 #[.int .i64 3, .int .i64 b.length] (0, 0) _ rfl (by exact e2_) Try.underlying65 rfl (by kernel_rfl) .nil))) rfl ?_
   exact ⟨rfl, by first | exact e1_.drew | exact e1_⟩
 ·have hne : rest ≠ [] := fun e => hend (.inl e)
  have hlr : 0 < rest.length := List.length_pos_iff.2 hne
  obtain ⟨ad, q1, hx0⟩ := Kd.at_int HRC1.out 0 (by omega) (by omega)
  cases q1
  rw [show (0 : Int).toNat = 0 from rfl, Addr.add_zero'] at hx0
  have hx1 : 1 < rest.length → W2.cell? ⟨ad.block, ad.off + 1, none⟩ = some (.int .u8 (rd rest 1)) := fun h => by
   obtain ⟨ad', q2, hx⟩ := Kd.at_int HRC1.out 1 (by omega) (by omega)
   cases q2
   have e := add_field ad 0 1 (by omega)
   rw [Nat.zero_add, Addr.add_zero'] at e
   rw [show (1 : Int).toNat = 1 from rfl, e] at hx
   exact hx
  have HX1 := zA hx1
  obtain ⟨b0, hb0⟩ : ∃ b0, b0 = rd rest 0 := ⟨_, rfl⟩
  obtain ⟨b1, hb1⟩ : ∃ b1, b1 = rd rest 1 := ⟨_, rfl⟩
  obtain ⟨m, hm⟩ : ∃ m, m = markM rest := ⟨_, rfl⟩
  have hm2 : m = if b0 ≠ 255 ∨ b1 = 0 then 0 else b1 := by rw [hm, markM, hb0, hb1]
  have hb0r : 0 ≤ b0 ∧ b0 ≤ 255 := by
   rw [hb0]; cases rest with
   | nil => simp at hlr
   | cons x t => exact HRB.out x List.mem_cons_self
  have hb1r : 0 ≤ b1 ∧ b1 ≤ 255 := by
   rw [hb1]; match rest with
   | [] => simp [rd]
   | [x] => simp [rd]
   | x :: y :: t => exact HRB.out y (by simp)
  have hone : rest.length = 1 → b0 ≠ 255 := by
   intro h e
   obtain ⟨x, rfl⟩ := List.length_eq_one_iff.1 h
   exact hend (.inr (by rw [← e, hb0]; rfl))
  rw [← hb0] at hx0
  have hR3 : R = if m = 254 then (true, 0, 0, at_ + 2, l) else if badM m l then (false, 4, (at_ : Int), at_, l) else if l.length = 300 then (false, 6, (at_ : Int), at_, l)
    else if m = 0 then (if 20000 < (un rest).1.length then (false, 5, (at_ : Int), at_, l) else (false, 0, 0, at_ + (un rest).2, l ++ [⟨0, (un rest).1⟩]))
    else if isRest m then (false, 0, 0, at_ + 2, l ++ [⟨m, []⟩]) else if rest.length < 4 then (false, 3, (b.length : Int), at_, l) else if 20000 < lenM rest then (false, 5, (at_ : Int), at_, l)
    else if (rest.length : Int) < 4 + lenM rest then (false, 3, (b.length : Int), at_, l) else (false, 0, 0, at_ + 4 + (lenM rest).toNat, l ++ [⟨m, (rest.drop 4).take (lenM rest).toNat⟩]) := by
   rw [HRR.out, nxt, ← HREST.out, if_neg hend, ← hm]
  have HR3 := zA hR3
  have HB1E := zA hb1
  have hmr : 0 ≤ m ∧ m ≤ 255 := by rw [hm2]; split <;> omega
  have HE2 := zA (show ¬ (¬ (rest = [] ∨ rest = [255]) ∧ m ≠ 254 ∧ badM m l = false ∧ l.length ≠ 300) from by rw [hm, HREST.out]; exact HE.out)
  have HM2 := zA hm2
  have HMM := zA hm
  have HEND := zA hend
  clear hx1 hb0 hb1 hm hm2 hR3 hend hne HRR
  go_cut [6] from 11 (fun v6 wx => v6 = .int .i64 m ∧ wx = W2)
  case first =>
   have z0 : ((rest.length : Int) == 0) = false := by rw [beq_eq_false_iff_ne]; omega
   by_cases h255 : b0 = 255
   ·have h1 : 1 < rest.length := by
     rcases Nat.lt_or_ge 1 rest.length with h | h
     ·exact h
     ·exact absurd h255 (hone (by omega))
    have z1 : ((rest.length : Int) == 1) = false := by rw [beq_eq_false_iff_ne]; omega
    have hx1 := HX1.out h1
    rw [← show b1 = rd rest 1 from HB1E.out] at hx1
    subst h255
    by_cases hz : b1 = 0
    ·subst hz
     have hmz : m = 0 := by rw [HM2.out]; simp
     subst hmz
     go_wp2
     go_meet
     case rel => exact ⟨rfl, rfl⟩
    ·have hmz : m = b1 := by rw [HM2.out]; simp [hz]
     subst hmz
     go_wp2
     go_meet
     case rel => exact ⟨by first | rfl | (congr 1; omega), rfl⟩
   ·have hmz : m = 0 := by rw [HM2.out]; simp [h255]
    subst hmz
    have z2 : (b0 == 255) = false := by simp [h255]
    by_cases h1 : rest.length = 1
    ·have z1 : ((rest.length : Int) == 1) = true := by simp [h1]
     clear h1
     go_wp2
     go_meet
     case rel => exact ⟨rfl, rfl⟩
    ·have z1 : ((rest.length : Int) == 1) = false := by rw [beq_eq_false_iff_ne]; omega
     go_wp2
     go_meet
     case rel => exact ⟨rfl, rfl⟩
  case rest =>
   obtain ⟨rfl, rfl⟩ := hcut
   by_cases h254 : m = 254
   ·have hRe : R = (true, 0, 0, at_ + 2, l) := by rw [HR3.out, if_pos h254]
    subst hRe
    subst h254
    have fg1 : wc.frozen? ⟨g, 1, none⟩ = false := by obtain ⟨_, v, h2, _⟩ := HSG.out; exact zJ h2 1
    go_wp2
    have hsg2 := HSG.out.at_ hg hqg (at_ + 2)
    have hr2 := blk_far HR2.out (p := ⟨g, 1, none⟩) (fun e => hgr e.symm) (.int .i64 ((at_ + 2 : Nat) : Int))
    obtain ⟨e1_, e2_⟩ := SegK.fin hsg2 hr2 hgr hqr hgw (.int .i64 0) (.int .i64 0)
    refine bodyPost_ret (results_list (rs := [.tmp 2, .cell 3 65]) rfl (by simp) (.tmp (.cell gr 65 #[.int .i64 0, .int .i64 0] (0, 0) _ rfl (by exact e2_) Try.underlying65 rfl (by kernel_rfl) .nil))) rfl ?_
    exact ⟨rfl, by first | exact e1_.drew | exact e1_⟩
   ·have hz254 : (m == 254) = false := by simp [h254]
    obtain ⟨_, v2, hk2, hs2, _⟩ := HSG.out
    obtain ⟨Al2, cl2, e2⟩ := Kd.S_slice hs2
    subst e2
    have j2 := zK hk2 2
    simp at j2
    have HSR := Kd.S_reads' hs2
    have HSC := zA HSR.2.2
    have HSL := zA HSR.2.1
    have HK2 := zA hk2
    have HS2 := zA hs2
    have HMR := zA (mayRun_val l hl)
    have HMS := zA (mayRest_val l hl)
    have HIR := zA (isRest_val m)
    clear hk2 hs2 HSR
    have hR4 : R = if badM m l then (false, 4, (at_ : Int), at_, l) else if l.length = 300 then (false, 6, (at_ : Int), at_, l)
      else if m = 0 then (if 20000 < (un rest).1.length then (false, 5, (at_ : Int), at_, l) else (false, 0, 0, at_ + (un rest).2, l ++ [⟨0, (un rest).1⟩]))
      else if isRest m then (false, 0, 0, at_ + 2, l ++ [⟨m, []⟩]) else if rest.length < 4 then (false, 3, (b.length : Int), at_, l) else if 20000 < lenM rest then (false, 5, (at_ : Int), at_, l)
      else if (rest.length : Int) < 4 + lenM rest then (false, 3, (b.length : Int), at_, l) else (false, 0, 0, at_ + 4 + (lenM rest).toNat, l ++ [⟨m, (rest.drop 4).take (lenM rest).toNat⟩]) := by
     rw [HR3.out, if_neg h254]
    have HR4 := zA hR4
    clear hR4 HR3
    go_upto_block 1 with (fail)
    go_cut [] from 11 (fun wx => Aside0 (SegK w0 wx g gq A c b at_ l) ∧ Aside0 (wx.heap[gr]? = some (.cells #[.int .i64 0, .int .i64 0] 65 (0, 0))) ∧ Aside0 (badM m l = false) ∧ l.length ≠ 300)
    case first =>
     by_cases h247 : 247 < m
     ·have hbad : badM m l = true := by simp [badM, h247]
      have hRe : R = (false, 4, (at_ : Int), at_, l) := by rw [HR4.out, if_pos hbad]
      subst hRe
      clear hbad
      go_wp2
      obtain ⟨e1_, e2_⟩ := SegK.fin HSG.out HR2.out hgr hqr hgw (.int .i64 4) (.int .i64 at_)
      refine bodyPost_ret (results_list (rs := [.tmp 2, .cell 3 65]) rfl (by simp) (.tmp (.cell gr 65 #[.int .i64 4, .int .i64 at_] (0, 0) _ rfl (by exact e2_) Try.underlying65 rfl (by kernel_rfl) .nil))) rfl ?_
      exact ⟨rfl, by first | exact e1_.drew | exact e1_⟩
     ·by_cases hm0 : m = 0
      ·subst hm0
       cases hmr : mayRunM l with
       | false =>
        have hbad : badM 0 l = true := by simp [badM, hmr]
        have hRe : R = (false, 4, (at_ : Int), at_, l) := by rw [HR4.out, if_pos hbad]
        subst hRe
        rw [hmr] at HMR
        clear hbad hmr
        go_wp2_with fail
        refine (impl_mayRun.calls Al2 cl2 l false _ (yL HSC.out 0) HSL.out HMR.out).mono ?_
        rintro e_ w_ ⟨rfl, ⟨n1, rfl⟩⟩
        go_wp2
        obtain ⟨e1_, e2_⟩ := SegK.fin (HSG.out.drewN (n1)) (show (wc.drewN (n1)).heap[gr]? = some (.cells #[.int .i64 0, .int .i64 0] 65 (0, 0)) from HR2.out) hgr hqr hgw (.int .i64 4) (.int .i64 at_)
        refine bodyPost_ret (results_list (rs := [.tmp 2, .cell 3 65]) rfl (by simp) (.tmp (.cell gr 65 #[.int .i64 4, .int .i64 at_] (0, 0) _ rfl (by exact e2_) Try.underlying65 rfl (by kernel_rfl) .nil))) rfl ?_
        exact ⟨rfl, by first | exact e1_.drew | exact e1_⟩
       | true =>
        have hbad : badM 0 l = false := by simp [badM, hmr, isRest]
        have HBAD := zA hbad
        have hir0 : isRest 0 = false := by decide
        rw [hmr] at HMR
        rw [hir0] at HIR
        clear hbad hmr hir0
        go_wp2_with fail
        refine (impl_mayRun.calls Al2 cl2 l true _ (yL HSC.out 0) HSL.out HMR.out).mono ?_
        rintro e_ w_ ⟨rfl, ⟨n1, rfl⟩⟩
        go_wp2_with fail
        refine (impl_isRestart.calls 0 false _ HIR.out).mono ?_
        rintro e_ w_ ⟨rfl, ⟨n2, rfl⟩⟩
        by_cases h300 : l.length = 300
        ·have hRe : R = (false, 6, (at_ : Int), at_, l) := by rw [HR4.out, HBAD.out, if_neg (by decide), if_pos h300]
         subst hRe
         have h3b : ((l.length : Int) == 300) = true := by rw [beq_iff_eq]; omega
         clear h300
         go_wp2
         obtain ⟨e1_, e2_⟩ := SegK.fin (HSG.out.drewN (n1 + n2)) (show (wc.drewN (n1 + n2)).heap[gr]? = some (.cells #[.int .i64 0, .int .i64 0] 65 (0, 0)) from HR2.out) hgr hqr hgw (.int .i64 6) (.int .i64 at_)
         refine bodyPost_ret (results_list (rs := [.tmp 2, .cell 3 65]) rfl (by simp) (.tmp (.cell gr 65 #[.int .i64 6, .int .i64 at_] (0, 0) _ rfl (by exact e2_) Try.underlying65 rfl (by kernel_rfl) .nil))) rfl ?_
         exact ⟨rfl, by first | exact e1_.drew | exact e1_⟩
        ·have h3b : ((l.length : Int) == 300) = false := by rw [beq_eq_false_iff_ne]; omega
         go_wp2
         go_meet
         case rel => exact ⟨⟨HSG.out.drewN _⟩, ⟨HR2.out⟩, HBAD, h300⟩
      ·have hm0b : (m == 0) = false := by simp [hm0]
       cases hir : isRest m with
       | false =>
        have hbad : badM m l = false := by simp [badM, h247, hm0, hir]
        have HBAD := zA hbad
        rw [hir] at HIR
        clear hbad hir
        go_wp2_with fail
        refine (impl_isRestart.calls m false _ HIR.out).mono ?_
        rintro e_ w_ ⟨rfl, ⟨n2, rfl⟩⟩
        by_cases h300 : l.length = 300
        ·have hRe : R = (false, 6, (at_ : Int), at_, l) := by rw [HR4.out, HBAD.out, if_neg (by decide), if_pos h300]
         subst hRe
         have h3b : ((l.length : Int) == 300) = true := by rw [beq_iff_eq]; omega
         clear h300
         go_wp2
         obtain ⟨e1_, e2_⟩ := SegK.fin (HSG.out.drewN (n2)) (show (wc.drewN (n2)).heap[gr]? = some (.cells #[.int .i64 0, .int .i64 0] 65 (0, 0)) from HR2.out) hgr hqr hgw (.int .i64 6) (.int .i64 at_)
         refine bodyPost_ret (results_list (rs := [.tmp 2, .cell 3 65]) rfl (by simp) (.tmp (.cell gr 65 #[.int .i64 6, .int .i64 at_] (0, 0) _ rfl (by exact e2_) Try.underlying65 rfl (by kernel_rfl) .nil))) rfl ?_
         exact ⟨rfl, by first | exact e1_.drew | exact e1_⟩
        ·have h3b : ((l.length : Int) == 300) = false := by rw [beq_eq_false_iff_ne]; omega
         go_wp2
         go_meet
         case rel => exact ⟨⟨HSG.out.drewN _⟩, ⟨HR2.out⟩, HBAD, h300⟩
       | true =>
        cases hmr : mayRestM l with
        | false =>
         have hbad : badM m l = true := by simp [badM, hir, hmr]
         have hRe : R = (false, 4, (at_ : Int), at_, l) := by rw [HR4.out, if_pos hbad]
         subst hRe
         rw [hir] at HIR
         rw [hmr] at HMS
         clear hbad hir hmr
         go_wp2_with fail
         refine (impl_isRestart.calls m true _ HIR.out).mono ?_
         rintro e_ w_ ⟨rfl, ⟨n2, rfl⟩⟩
         go_wp2_with fail
         refine (impl_mayRestart.calls Al2 cl2 l false _ (yL HSC.out _) HSL.out HMS.out).mono ?_
         rintro e_ w_ ⟨rfl, ⟨n3, rfl⟩⟩
         go_wp2
         obtain ⟨e1_, e2_⟩ := SegK.fin (HSG.out.drewN (n2 + n3)) (show (wc.drewN (n2 + n3)).heap[gr]? = some (.cells #[.int .i64 0, .int .i64 0] 65 (0, 0)) from HR2.out) hgr hqr hgw (.int .i64 4) (.int .i64 at_)
         refine bodyPost_ret (results_list (rs := [.tmp 2, .cell 3 65]) rfl (by simp) (.tmp (.cell gr 65 #[.int .i64 4, .int .i64 at_] (0, 0) _ rfl (by exact e2_) Try.underlying65 rfl (by kernel_rfl) .nil))) rfl ?_
         exact ⟨rfl, by first | exact e1_.drew | exact e1_⟩
        | true =>
         have hbad : badM m l = false := by simp [badM, h247, hm0, hmr]
         have HBAD := zA hbad
         rw [hir] at HIR
         rw [hmr] at HMS
         clear hbad hir hmr
         go_wp2_with fail
         refine (impl_isRestart.calls m true _ HIR.out).mono ?_
         rintro e_ w_ ⟨rfl, ⟨n2, rfl⟩⟩
         go_wp2_with fail
         refine (impl_mayRestart.calls Al2 cl2 l true _ (yL HSC.out _) HSL.out HMS.out).mono ?_
         rintro e_ w_ ⟨rfl, ⟨n3, rfl⟩⟩
         by_cases h300 : l.length = 300
         ·have hRe : R = (false, 6, (at_ : Int), at_, l) := by rw [HR4.out, HBAD.out, if_neg (by decide), if_pos h300]
          subst hRe
          have h3b : ((l.length : Int) == 300) = true := by rw [beq_iff_eq]; omega
          clear h300
          go_wp2
          obtain ⟨e1_, e2_⟩ := SegK.fin (HSG.out.drewN (n2 + n3)) (show (wc.drewN (n2 + n3)).heap[gr]? = some (.cells #[.int .i64 0, .int .i64 0] 65 (0, 0)) from HR2.out) hgr hqr hgw (.int .i64 6) (.int .i64 at_)
          refine bodyPost_ret (results_list (rs := [.tmp 2, .cell 3 65]) rfl (by simp) (.tmp (.cell gr 65 #[.int .i64 6, .int .i64 at_] (0, 0) _ rfl (by exact e2_) Try.underlying65 rfl (by kernel_rfl) .nil))) rfl ?_
          exact ⟨rfl, by first | exact e1_.drew | exact e1_⟩
         ·have h3b : ((l.length : Int) == 300) = false := by rw [beq_eq_false_iff_ne]; omega
          go_wp2
          go_meet
          case rel => exact ⟨⟨HSG.out.drewN _⟩, ⟨HR2.out⟩, HBAD, h300⟩
    case rest =>
     obtain ⟨HSG3, HRF, HBAD, h300⟩ := hcut
     exact absurd ⟨HEND.out, h254, HBAD.out, h300⟩ HE2.out
set_option maxRecDepth 100000 in
set_option maxHeartbeats 4000000 in
theorem next_calls_b1 (w0 W : World) (g gq : Nat) (A : Option Addr) (c : Nat) (b : List Int) (at_ : Nat) (l : List S131) (h : SegK w0 W g gq A c b at_ l) (hg : w0.heap.size ≤ g) (hqg : gq ≠ g) (hC : Kd.C (Kd.int .u8) w0 A b.length b) (hc : b.length ≤ c) (hat : at_ ≤ b.length) (hlen : b.length ≤ 60000) (hB : ∀ x ∈ b, 0 ≤ x ∧ x ≤ 255) (hl : l.length ≤ 300) (hE : (¬ (b.drop at_ = [] ∨ b.drop at_ = [255]) ∧ markM (b.drop at_) ≠ 254 ∧ badM (markM (b.drop at_)) l = false ∧ l.length ≠ 300)) (hK : markM (b.drop at_) = 0) :
  Calls Try.prog 133 #[.pointer (some ⟨g, 0, none⟩)] W fun e w' => e = .returned (.tuple #[.bool (nxt b at_ l).1, .agg #[.int .i64 (nxt b at_ l).2.1, .int .i64 (nxt b at_ l).2.2.1]]) ∧ SegK w0 w' g gq A c b (nxt b at_ l).2.2.2.1 (nxt b at_ l).2.2.2.2 := by
 obtain ⟨hbel, v, hk, hS, hq⟩ := h
 have HQ := zA hq
 have k0 := zK hk 0
 have k1 := zK hk 1
 have k2 := zK hk 2
 simp at k0 k1 k2
 obtain ⟨Al, cl, el⟩ := Kd.S_slice hS
 subst el
 have HBEL := zA hbel
 have HK := zA hk
 have HS := zA hS
 have HCB := zA hC
 have HCC := zA hc
 have HBB := zA hB
 have hatc : at_ ≤ c := by omega
 have HE := zA hE
 have HKK := zA hK
 clear hE hK
 clear hbel hk hS hC hB hq
 obtain ⟨R, hR⟩ : ∃ R, R = nxt b at_ l := ⟨_, rfl⟩
 rw [← hR]
 have HRR := zA hR
 clear hR
 go_enter Try.func133, Try.ntmps133
 go_upto_region 1 with (fail)
 have hr := blk_new W (Obj.cells #[.int .i64 0, .int .i64 0] 65)
 have HK1 := zA (zD HK.out (Obj.cells #[.int .i64 0, .int .i64 0] 65))
 have HS1 := zA (yE HS.out (Obj.cells #[.int .i64 0, .int .i64 0] 65))
 have HB1 := zA (zC HBEL.out (Obj.cells #[.int .i64 0, .int .i64 0] 65))
 have hgr : g ≠ W.heap.size := by have := blk_lt HK.out; omega
 have hqr : gq ≠ W.heap.size := by have := blk_lt HQ.out; omega
 have HQ1 := zA (zD HQ.out (Obj.cells #[.int .i64 0, .int .i64 0] 65))
 have hgw : w0.heap.size ≤ W.heap.size := HBEL.out.size
 generalize W.heap.size = gr at hr hgr hqr hgw ⊢
 generalize W.alloc (Obj.cells #[.int .i64 0, .int .i64 0] 65) = W1 at hr HK1 HS1 HB1 HQ1 ⊢
 clear k0 k1 k2 HK HS HBEL HQ
 have k0 := zK HK1.out 0
 have k1 := zK HK1.out 1
 have k2 := zK HK1.out 2
 simp at k0 k1 k2
 have HR := zA hr
 clear hr
 go_wp2
 go_quiet (fail)
 go_upto_block 0 with (fail)
 obtain ⟨rest, hrest⟩ : ∃ rest, rest = b.drop at_ := ⟨_, rfl⟩
 have hrl : b.length - at_ = rest.length := by rw [hrest, zR]
 have hrc : Kd.C (Kd.int .u8) w0 (if c = at_ then A else A.map (·.add at_)) rest.length rest := by
  have h9 := Kd.C_drop HCB.out hat HCC.out
  rw [show (Kd.int IntKind.u8).sz = 1 from rfl] at h9
  simp only [Nat.mul_one] at h9
  rw [hrest]
  exact h9
 rw [hrl]
 generalize (if c = at_ then A else Option.map (fun x => x.add at_) A) = Ar at hrc ⊢
 have hrcc : rest.length ≤ c - at_ := by rw [← hrl]; omega
 have HRC := zA hrc
 have HRCC := zA hrcc
 have HREST := zA hrest
 have HRL := zA hrl
 have HRB := zA (show ∀ x ∈ rest, 0 ≤ x ∧ x ≤ 255 from fun x hx => HBB.out x (by rw [hrest] at hx; exact List.mem_of_mem_drop hx))
 have HSG : Aside0 (SegK w0 (W1.drewN nq) g gq A c b at_ l) := ⟨zB HB1.out nq, _, HK1.out, yF HS1.out nq, HQ1.out⟩
 have HR2 : Aside0 ((W1.drewN nq).heap[gr]? = some (.cells #[.int .i64 0, .int .i64 0] 65 (0, 0))) := ⟨HR.out⟩
 have HRC1 := zA (Kd.C_below hrc HSG.out.1)
 generalize hcr : c - at_ = cr at HRCC ⊢
 generalize W1.drewN nq = W2 at HSG HR2 HRC1 ⊢
 clear hrest hrl hrc hrcc HK1 HS1 HB1 HQ1 HR k0 k1 k2 hcr
 have j0 : W2.cell? ⟨g, 0, none⟩ = some (.slice A b.length c) := by obtain ⟨_, v, h2, _⟩ := HSG.out; exact zK h2 0
 have j1 : W2.cell? ⟨g, 1, none⟩ = some (.int .i64 (at_ : Int)) := by obtain ⟨_, v, h2, _⟩ := HSG.out; exact zK h2 1
 have r0 : W2.cell? ⟨gr, 0, none⟩ = some (.int .i64 0) := zK HR2.out 0
 have r1 : W2.cell? ⟨gr, 1, none⟩ = some (.int .i64 0) := zK HR2.out 1
 have f0 : W2.frozen? ⟨gr, 0, none⟩ = false := zJ HR2.out 0
 have f1 : W2.frozen? ⟨gr, 1, none⟩ = false := zJ HR2.out 1
 by_cases hend : rest = [] ∨ rest = [255]
 ·exact absurd hend (by rw [HREST.out]; exact HE.out.1)
 ·have hne : rest ≠ [] := fun e => hend (.inl e)
  have hlr : 0 < rest.length := List.length_pos_iff.2 hne
  obtain ⟨ad, q1, hx0⟩ := Kd.at_int HRC1.out 0 (by omega) (by omega)
  cases q1
  rw [show (0 : Int).toNat = 0 from rfl, Addr.add_zero'] at hx0
  have hx1 : 1 < rest.length → W2.cell? ⟨ad.block, ad.off + 1, none⟩ = some (.int .u8 (rd rest 1)) := fun h => by
   obtain ⟨ad', q2, hx⟩ := Kd.at_int HRC1.out 1 (by omega) (by omega)
   cases q2
   have e := add_field ad 0 1 (by omega)
   rw [Nat.zero_add, Addr.add_zero'] at e
   rw [show (1 : Int).toNat = 1 from rfl, e] at hx
   exact hx
  have HX1 := zA hx1
  obtain ⟨b0, hb0⟩ : ∃ b0, b0 = rd rest 0 := ⟨_, rfl⟩
  obtain ⟨b1, hb1⟩ : ∃ b1, b1 = rd rest 1 := ⟨_, rfl⟩
  obtain ⟨m, hm⟩ : ∃ m, m = markM rest := ⟨_, rfl⟩
  have hm2 : m = if b0 ≠ 255 ∨ b1 = 0 then 0 else b1 := by rw [hm, markM, hb0, hb1]
  have hb0r : 0 ≤ b0 ∧ b0 ≤ 255 := by
   rw [hb0]; cases rest with
   | nil => simp at hlr
   | cons x t => exact HRB.out x List.mem_cons_self
  have hb1r : 0 ≤ b1 ∧ b1 ≤ 255 := by
   rw [hb1]; match rest with
   | [] => simp [rd]
   | [x] => simp [rd]
   | x :: y :: t => exact HRB.out y (by simp)
  have hone : rest.length = 1 → b0 ≠ 255 := by
   intro h e
   obtain ⟨x, rfl⟩ := List.length_eq_one_iff.1 h
   exact hend (.inr (by rw [← e, hb0]; rfl))
  rw [← hb0] at hx0
  have hR3 : R = if m = 254 then (true, 0, 0, at_ + 2, l) else if badM m l then (false, 4, (at_ : Int), at_, l) else if l.length = 300 then (false, 6, (at_ : Int), at_, l)
    else if m = 0 then (if 20000 < (un rest).1.length then (false, 5, (at_ : Int), at_, l) else (false, 0, 0, at_ + (un rest).2, l ++ [⟨0, (un rest).1⟩]))
    else if isRest m then (false, 0, 0, at_ + 2, l ++ [⟨m, []⟩]) else if rest.length < 4 then (false, 3, (b.length : Int), at_, l) else if 20000 < lenM rest then (false, 5, (at_ : Int), at_, l)
    else if (rest.length : Int) < 4 + lenM rest then (false, 3, (b.length : Int), at_, l) else (false, 0, 0, at_ + 4 + (lenM rest).toNat, l ++ [⟨m, (rest.drop 4).take (lenM rest).toNat⟩]) := by
   rw [HRR.out, nxt, ← HREST.out, if_neg hend, ← hm]
  have HR3 := zA hR3
  have HB1E := zA hb1
  have hmr : 0 ≤ m ∧ m ≤ 255 := by rw [hm2]; split <;> omega
  have HE2 := zA (show (¬ (rest = [] ∨ rest = [255]) ∧ m ≠ 254 ∧ badM m l = false ∧ l.length ≠ 300) from by rw [hm, HREST.out]; exact HE.out)
  have HKM := zA (show m = 0 from by rw [hm, HREST.out]; exact HKK.out)
  have HM2 := zA hm2
  have HMM := zA hm
  have HEND := zA hend
  clear hx1 hb0 hb1 hm hm2 hR3 hend hne HRR
  go_cut [6] from 11 (fun v6 wx => v6 = .int .i64 m ∧ wx = W2)
  case first =>
   have z0 : ((rest.length : Int) == 0) = false := by rw [beq_eq_false_iff_ne]; omega
   by_cases h255 : b0 = 255
   ·have h1 : 1 < rest.length := by
     rcases Nat.lt_or_ge 1 rest.length with h | h
     ·exact h
     ·exact absurd h255 (hone (by omega))
    have z1 : ((rest.length : Int) == 1) = false := by rw [beq_eq_false_iff_ne]; omega
    have hx1 := HX1.out h1
    rw [← show b1 = rd rest 1 from HB1E.out] at hx1
    subst h255
    by_cases hz : b1 = 0
    ·subst hz
     have hmz : m = 0 := by rw [HM2.out]; simp
     subst hmz
     go_wp2
     go_meet
     case rel => exact ⟨rfl, rfl⟩
    ·have hmz : m = b1 := by rw [HM2.out]; simp [hz]
     subst hmz
     go_wp2
     go_meet
     case rel => exact ⟨by first | rfl | (congr 1; omega), rfl⟩
   ·have hmz : m = 0 := by rw [HM2.out]; simp [h255]
    subst hmz
    have z2 : (b0 == 255) = false := by simp [h255]
    by_cases h1 : rest.length = 1
    ·have z1 : ((rest.length : Int) == 1) = true := by simp [h1]
     clear h1
     go_wp2
     go_meet
     case rel => exact ⟨rfl, rfl⟩
    ·have z1 : ((rest.length : Int) == 1) = false := by rw [beq_eq_false_iff_ne]; omega
     go_wp2
     go_meet
     case rel => exact ⟨rfl, rfl⟩
  case rest =>
   obtain ⟨rfl, rfl⟩ := hcut
   by_cases h254 : m = 254
   ·exact absurd h254 HE2.out.2.1
   ·have hz254 : (m == 254) = false := by simp [h254]
    obtain ⟨_, v2, hk2, hs2, _⟩ := HSG.out
    obtain ⟨Al2, cl2, e2⟩ := Kd.S_slice hs2
    subst e2
    have j2 := zK hk2 2
    simp at j2
    have HSR := Kd.S_reads' hs2
    have HSC := zA HSR.2.2
    have HSL := zA HSR.2.1
    have HK2 := zA hk2
    have HS2 := zA hs2
    have HMR := zA (mayRun_val l hl)
    have HMS := zA (mayRest_val l hl)
    have HIR := zA (isRest_val m)
    clear hk2 hs2 HSR
    have hR4 : R = if badM m l then (false, 4, (at_ : Int), at_, l) else if l.length = 300 then (false, 6, (at_ : Int), at_, l)
      else if m = 0 then (if 20000 < (un rest).1.length then (false, 5, (at_ : Int), at_, l) else (false, 0, 0, at_ + (un rest).2, l ++ [⟨0, (un rest).1⟩]))
      else if isRest m then (false, 0, 0, at_ + 2, l ++ [⟨m, []⟩]) else if rest.length < 4 then (false, 3, (b.length : Int), at_, l) else if 20000 < lenM rest then (false, 5, (at_ : Int), at_, l)
      else if (rest.length : Int) < 4 + lenM rest then (false, 3, (b.length : Int), at_, l) else (false, 0, 0, at_ + 4 + (lenM rest).toNat, l ++ [⟨m, (rest.drop 4).take (lenM rest).toNat⟩]) := by
     rw [HR3.out, if_neg h254]
    have HR4 := zA hR4
    clear hR4 HR3
    go_upto_block 1 with (fail)
    go_cut [] from 11 (fun wx => Aside0 (SegK w0 wx g gq A c b at_ l) ∧ Aside0 (wx.heap[gr]? = some (.cells #[.int .i64 0, .int .i64 0] 65 (0, 0))) ∧ Aside0 (badM m l = false) ∧ l.length ≠ 300)
    case first =>
     by_cases h247 : 247 < m
     ·exact absurd HE2.out.2.2.1 (by simp [badM, h247])
     ·by_cases hm0 : m = 0
      ·subst hm0
       cases hmr : mayRunM l with
       | false =>
        exact absurd HE2.out.2.2.1 (by simp [badM, hmr])
       | true =>
        have hbad : badM 0 l = false := by simp [badM, hmr, isRest]
        have HBAD := zA hbad
        have hir0 : isRest 0 = false := by decide
        rw [hmr] at HMR
        rw [hir0] at HIR
        clear hbad hmr hir0
        go_wp2_with fail
        refine (impl_mayRun.calls Al2 cl2 l true _ (yL HSC.out 0) HSL.out HMR.out).mono ?_
        rintro e_ w_ ⟨rfl, ⟨n1, rfl⟩⟩
        go_wp2_with fail
        refine (impl_isRestart.calls 0 false _ HIR.out).mono ?_
        rintro e_ w_ ⟨rfl, ⟨n2, rfl⟩⟩
        by_cases h300 : l.length = 300
        ·exact absurd h300 HE2.out.2.2.2
        ·have h3b : ((l.length : Int) == 300) = false := by rw [beq_eq_false_iff_ne]; omega
         go_wp2
         go_meet
         case rel => exact ⟨⟨HSG.out.drewN _⟩, ⟨HR2.out⟩, HBAD, h300⟩
      ·have hm0b : (m == 0) = false := by simp [hm0]
       cases hir : isRest m with
       | false =>
        have hbad : badM m l = false := by simp [badM, h247, hm0, hir]
        have HBAD := zA hbad
        rw [hir] at HIR
        clear hbad hir
        go_wp2_with fail
        refine (impl_isRestart.calls m false _ HIR.out).mono ?_
        rintro e_ w_ ⟨rfl, ⟨n2, rfl⟩⟩
        by_cases h300 : l.length = 300
        ·exact absurd h300 HE2.out.2.2.2
        ·have h3b : ((l.length : Int) == 300) = false := by rw [beq_eq_false_iff_ne]; omega
         go_wp2
         go_meet
         case rel => exact ⟨⟨HSG.out.drewN _⟩, ⟨HR2.out⟩, HBAD, h300⟩
       | true =>
        cases hmr : mayRestM l with
        | false =>
         exact absurd HE2.out.2.2.1 (by simp [badM, hir, hmr])
        | true =>
         have hbad : badM m l = false := by simp [badM, h247, hm0, hmr]
         have HBAD := zA hbad
         rw [hir] at HIR
         rw [hmr] at HMS
         clear hbad hir hmr
         go_wp2_with fail
         refine (impl_isRestart.calls m true _ HIR.out).mono ?_
         rintro e_ w_ ⟨rfl, ⟨n2, rfl⟩⟩
         go_wp2_with fail
         refine (impl_mayRestart.calls Al2 cl2 l true _ (yL HSC.out _) HSL.out HMS.out).mono ?_
         rintro e_ w_ ⟨rfl, ⟨n3, rfl⟩⟩
         by_cases h300 : l.length = 300
         ·exact absurd h300 HE2.out.2.2.2
         ·have h3b : ((l.length : Int) == 300) = false := by rw [beq_eq_false_iff_ne]; omega
          go_wp2
          go_meet
          case rel => exact ⟨⟨HSG.out.drewN _⟩, ⟨HR2.out⟩, HBAD, h300⟩
    case rest =>
     obtain ⟨HSG3, HRF, HBAD, h300⟩ := hcut
     have hR5 : R = if m = 0 then (if 20000 < (un rest).1.length then (false, 5, (at_ : Int), at_, l) else (false, 0, 0, at_ + (un rest).2, l ++ [⟨0, (un rest).1⟩]))
       else if isRest m then (false, 0, 0, at_ + 2, l ++ [⟨m, []⟩]) else if rest.length < 4 then (false, 3, (b.length : Int), at_, l) else if 20000 < lenM rest then (false, 5, (at_ : Int), at_, l)
       else if (rest.length : Int) < 4 + lenM rest then (false, 3, (b.length : Int), at_, l) else (false, 0, 0, at_ + 4 + (lenM rest).toNat, l ++ [⟨m, (rest.drop 4).take (lenM rest).toNat⟩]) := by
      rw [HR4.out, HBAD.out, if_neg (by decide), if_neg h300]
     have HR5 := zA hR5
     clear hR5 HR4 HSG HR2 HRC1 j0 j1 r0 r1 f0 f1 hx0 j2 HSC HSL HK2 HS2 HMR HMS hz254
     go_upto_block 2 with (fail)
     obtain ⟨hb3, v3, hk3, hs3, hq3⟩ := HSG3.out
     obtain ⟨Al3, cl3, e3⟩ := Kd.S_slice hs3
     subst e3
     have kb := blk_new wc (Obj.cells #[.int .i64 m, .slice none 0 0] 131)
     have KG := zA (zD hk3 (Obj.cells #[.int .i64 m, .slice none 0 0] 131))
     have KQ := zA (zD hq3 (Obj.cells #[.int .i64 m, .slice none 0 0] 131))
     have hsq : gq < wc.heap.size := blk_lt hq3
     have KR := zA (zD HRF.out (Obj.cells #[.int .i64 m, .slice none 0 0] 131))
     have HB6 := zA (zC hb3 (Obj.cells #[.int .i64 m, .slice none 0 0] 131))
     have HS6 := zA (yH (ok' := fun k => k < wc.heap.size) (yE (Kd.S_bound hs3) (Obj.cells #[.int .i64 m, .slice none 0 0] 131)) (fun k hk => hk.2.2.1))
     have hsg : g < wc.heap.size := blk_lt hk3
     have hsr : gr < wc.heap.size := blk_lt HRF.out
     have hs0 : w0.heap.size ≤ wc.heap.size := hb3.size
     have hW6s : (wc.alloc (Obj.cells #[.int .i64 m, .slice none 0 0] 131)).heap.size = wc.heap.size + 1 := yJ ..
     have HRC6 := zA (Kd.C_below HRC.out HB6.out)
     generalize wc.heap.size = gs at kb HS6 hsg hsr hsq hs0 hW6s ⊢
     generalize wc.alloc (Obj.cells #[.int .i64 m, .slice none 0 0] 131) = W6 at kb KG KR KQ HB6 HS6 hW6s HRC6 ⊢
     have KB := zA kb
     have HW6 := zA hW6s
     clear hb3 hk3 hs3 hq3 HSG3 HRF kb hW6s
     go_cut [] from 11 (fun wx => ∃ (n2 : Nat) (d : List Int) (vd : Value), Aside0 (R = (false, 0, 0, n2, l ++ [⟨m, d⟩])) ∧ Aside0 (wx.heap[gs]? = some (.cells #[.int .i64 m, vd] 131 (0, 0))) ∧ Aside0 (wx.heap[g]? = some (.cells #[.slice A b.length c, .int .i64 (n2 : Int), .slice Al3 l.length cl3] 136 (0, 0))) ∧ Aside0 (wx.heap[gr]? = some (.cells #[.int .i64 0, .int .i64 0] 65 (0, 0))) ∧ Aside0 (wx.heap[gq]? = some (.cells #[.int .i64 0, .int .i64 0] 65 (0, 0))) ∧
      Aside0 (Below w0.heap.size w0 wx) ∧ Aside0 (Kd.S k131 131 wx w0.heap.size (fun k => k < gs) (.slice Al3 l.length cl3) l) ∧ Aside0 (Kd.R (Kd.int .u8) 5 wx w0.heap.size (fun k => gs < k) vd d))
     case first =>
      have s0 := zK KG.out 0
      have s1 := zK KG.out 1
      simp at s0 s1
      have t0 := zK KR.out 0
      have t1 := zK KR.out 1
      simp at t0 t1
      have q0 := zJ KR.out 0
      have q1 := zJ KR.out 1
      have q2 := zJ KG.out 1
      have q3 := zJ KB.out 1
      have b1c := zK KB.out 1
      simp at b1c
      by_cases hm0 : m = 0
      ·subst hm0
       obtain ⟨ku, hku⟩ := (un_impl rest (by have := HRL.out; omega)).rounds
       have HUN := zA hku
       have hule := un_le rest
       have hul1 := un_len rest
       obtain ⟨us, hus⟩ : ∃ us, us = (un rest).2 := ⟨_, rfl⟩
       obtain ⟨dd, hdd⟩ : ∃ dd, dd = (un rest).1 := ⟨_, rfl⟩
       have hR6 : R = if 20000 < dd.length then (false, 5, (at_ : Int), at_, l) else (false, 0, 0, at_ + us, l ++ [⟨0, dd⟩]) := by rw [HR5.out, if_pos rfl, hus, hdd]
       rw [← hus, ← hdd] at HUN
       rw [← hus] at hule
       rw [← hdd] at hul1
       have HR6 := zA hR6
       have hrl2 : rest.length ≤ 60000 := by have := HRL.out; omega
       clear hku hus hdd hR6
       go_wp2_with fail
       refine (impl_Unstuff.calls ku (some ad) cr rest dd (us : Int) _ HRC6.out HRCC.out HUN.out).mono ?_
       rintro e_ w2 ⟨vd, rfl, hd, hb2⟩
       obtain ⟨Ad, cd, ed⟩ := Kd.R_slice hd
       subst ed
       have HD := zA (zP (ok' := fun k => gs < k) (Kd.R_lower (Kd.R_bound hd) (show w0.heap.size ≤ W6.heap.size by have := HW6.out; omega)) (fun k hk => by have h1 := hk.2.1; have h2 := HW6.out; omega))
       have KG2 := zA (blk_below KG.out hb2)
       have KR2 := zA (blk_below KR.out hb2)
       have KQ2 := zA (blk_below KQ.out hb2)
       have KB2 := zA (blk_below KB.out hb2)
       have HB7 := zA (Below.trans HB6.out (hb2.mono HB6.out.size))
       have HS7 := zA (Kd.S_below HS6.out hb2)
       clear hd hb2 s0 s1 t0 t1 q0 q1 q2 q3 b1c
       have t0 := zK KR2.out 0
       have t1 := zK KR2.out 1
       simp at t0 t1
       have s1 := zK KG2.out 1
       simp at s1
       have b1c := zK KB2.out 1
       simp at b1c
       have q0 := zJ KR2.out 0
       have q1 := zJ KR2.out 1
       have q2 := zJ KG2.out 1
       have q3 := zJ KB2.out 1
       by_cases h20 : 20000 < dd.length
       ·have hRe : R = (false, 5, (at_ : Int), at_, l) := by rw [HR6.out, if_pos h20]
        subst hRe
        have hseg : SegK w0 w2 g gq A c b at_ l := ⟨HB7.out, _, KG2.out, yH HS7.out (fun _ _ => trivial), KQ2.out⟩
        go_wp2
        obtain ⟨e1_, e2_⟩ := SegK.fin hseg KR2.out hgr hqr hgw (.int .i64 5) (.int .i64 at_)
        refine bodyPost_ret (results_list (rs := [.tmp 2, .cell 3 65]) rfl (by simp) (.tmp (.cell gr 65 #[.int .i64 5, .int .i64 at_] (0, 0) _ rfl (by exact e2_) Try.underlying65 rfl (by kernel_rfl) .nil))) rfl ?_
        exact ⟨rfl, by first | exact e1_.drew | exact e1_⟩
       ·have hRe : R = (false, 0, 0, at_ + us, l ++ [⟨0, dd⟩]) := by rw [HR6.out, if_neg h20]
        have HRE := zA hRe
        clear hRe
        have hnsg : ¬ gs = g := by omega
        have hngs : ¬ g = gs := by omega
        go_wp2
        go_meet
        case rel =>
         refine ⟨at_ + us, dd, .slice Ad dd.length cd, HRE, ⟨blk_far (blk_set KB2.out 1 _) (by show gs ≠ g; omega) _⟩, ⟨blk_set (blk_far KG2.out (by show g ≠ gs; omega) _) 1 _⟩, ⟨blk_far (blk_far KR2.out (by show gr ≠ gs; omega) _) (by show gr ≠ g; omega) _⟩, ⟨blk_far (blk_far KQ2.out (by show gq ≠ gs; omega) _) hqg _⟩, ⟨zE (zE HB7.out hs0) hg⟩, ⟨?_⟩, ⟨?_⟩⟩
         ·exact yH (yI (p := ⟨g, 1, none⟩) (yI (p := ⟨gs, 1, none⟩) (Kd.S_types HS7.out KG2.out (by decide)) (fun k hk => by show k ≠ gs; have := hk.1; omega) _) (fun k hk => hk.2) _) (fun k hk => hk.1)
         ·exact zP (Kd.R_far (p := ⟨g, 1, none⟩) (Kd.R_far (p := ⟨gs, 1, none⟩) (zY HD.out KG2.out (by decide)) (fun k hk => by show k ≠ gs; have := hk.1; omega) _) (fun k hk => hk.2) _) (fun k hk => hk.1)
      ·exact absurd HKM.out hm0
     case rest =>
      obtain ⟨n2, d, vd, HRE, KB9, KG9, KR9, KQ9, HB9, HS9, HD9⟩ := hcut
      have hRe := HRE.out
      subst hRe
      obtain ⟨Ad, cd, ed⟩ := Kd.R_slice HD9.out
      subst ed
      have s0 := zK KG9.out 0
      have s2 := zK KG9.out 2
      simp at s0 s2
      have q4 := zJ KG9.out 2
      have b0c := zK KB9.out 0
      have b1c := zK KB9.out 1
      simp at b0c b1c
      have t0 := zK KR9.out 0
      have t1 := zK KR9.out 1
      simp at t0 t1
      have s2a : ∀ o : Obj, (wc.alloc o).cell? ⟨g, 2, none⟩ = some (.slice Al3 l.length cl3) := fun o => (World.cell?_alloc_lt _ _ _ (blk_lt KG9.out)).trans s2
      have b0a : ∀ o : Obj, (wc.alloc o).cell? ⟨gs, 0, none⟩ = some (.int .i64 m) := fun o => (World.cell?_alloc_lt _ _ _ (blk_lt KB9.out)).trans b0c
      have b1a : ∀ o : Obj, (wc.alloc o).cell? ⟨gs, 1, none⟩ = some (.slice Ad d.length cd) := fun o => (World.cell?_alloc_lt _ _ _ (blk_lt KB9.out)).trans b1c
      have HOK := zA (show ∀ k, gs < k → True ∧ some k ≠ (Value.slice Al3 l.length cl3).ownBlock from fun k hk => ⟨trivial, fun e => absurd (S_ok2 HS9.out k e.symm) (by omega)⟩)
      have HO9 := zA (yH (ok' := fun k => True ∧ ¬ gs < k) HS9.out (fun k hk => ⟨trivial, by omega⟩))
      clear HRE
      go_upto_region 31 with (fail)
      go_region_law (refine Kd.S_append_step k131 (w0 := w0) (W := wc.drew) w0.heap.size (by rfl) (.tmp 195) (.tmp 197) 63 131 (.agg #[.int .i64 0, .slice none 0 0]) 32 (by rfl) Try.underlying63 info131 (by rfl) (by decide) (by decide) (.slice Al3 l.length cl3) l ⟨m, d⟩ [.int .i64 m, .slice Ad d.length cd] (fun _ => True) (fun k => gs < k) (by rfl) (by rfl) (k131_mkM _ _ _ _ (zO HD9.out)) HOK.out (fun _ _ => trivial) (yG HO9.out) (below_drew HB9.out) HB9.out.size (by omega) ?_; intro v8 w3 ho hb hg_ hat; obtain ⟨A8, c8, e8⟩ := Kd.S_slice ho; subst e8; have HO3 := zA ho; have HB3 := zA hb; have HG3 := zA hg_; clear ho hb hg_ hat; have i1 := blk_grown (w := wc.drew) KG9.out HG3.out (Kd.S_ne (yG HS9.out) KG9.out (by decide)); have i2 := blk_grown (w := wc.drew) KR9.out HG3.out (Kd.S_ne (yG HS9.out) KR9.out (by decide)); have d3 := zK i1 2; simp at d3; have e3 := zJ i1 2; have I1 := zA i1; have I2 := zA i2; have I3 := zA (blk_grown (w := wc.drew) KQ9.out HG3.out (Kd.S_ne (yG HS9.out) KQ9.out (by decide))); clear i1 i2)
      all_goals
       have hl1 : (l ++ [(⟨m, d⟩ : S131)]).length = l.length + 1 := by simp
       have ho3 := HO3.out
       rw [hl1] at ho3
       have hseg : SegK w0 (w3.setCell ⟨g, 2, none⟩ (.slice A8 (l.length + 1) c8)) g gq A c b n2 (l ++ [⟨m, d⟩]) := ⟨zE HB3.out hg, _, blk_set I1.out 2 _, Kd.S_set ho3 I1.out (by decide) 2 _, blk_far I3.out hqg _⟩
       have hr9 := blk_far I2.out (p := ⟨g, 2, none⟩) (fun e => hgr e.symm) (.slice A8 (l.length + 1) c8)
       have HSEG := zA hseg
       have HR9 := zA hr9
       clear hseg hr9 ho3 hl1
       generalize w3.setCell ⟨g, 2, none⟩ (.slice A8 (l.length + 1) c8) = W9 at HSEG HR9 ⊢
       have u0 := zK HR9.out 0
       have u1 := zK HR9.out 1
       simp at u0 u1
       have u2 := zJ HR9.out 0
       have u3 := zJ HR9.out 1
       go_wp2
       obtain ⟨e1_, e2_⟩ := SegK.fin HSEG.out HR9.out hgr hqr hgw (.int .i64 0) (.int .i64 0)
       refine bodyPost_ret (results_list (rs := [.tmp 2, .cell 3 65]) rfl (by simp) (.tmp (.cell gr 65 #[.int .i64 0, .int .i64 0] (0, 0) _ rfl (by exact e2_) Try.underlying65 rfl (by kernel_rfl) .nil))) rfl ?_
       exact ⟨rfl, by first | exact e1_.drew | exact e1_⟩
set_option maxRecDepth 100000 in
set_option maxHeartbeats 4000000 in
theorem next_calls_b2 (w0 W : World) (g gq : Nat) (A : Option Addr) (c : Nat) (b : List Int) (at_ : Nat) (l : List S131) (h : SegK w0 W g gq A c b at_ l) (hg : w0.heap.size ≤ g) (hqg : gq ≠ g) (hC : Kd.C (Kd.int .u8) w0 A b.length b) (hc : b.length ≤ c) (hat : at_ ≤ b.length) (hlen : b.length ≤ 60000) (hB : ∀ x ∈ b, 0 ≤ x ∧ x ≤ 255) (hl : l.length ≤ 300) (hE : (¬ (b.drop at_ = [] ∨ b.drop at_ = [255]) ∧ markM (b.drop at_) ≠ 254 ∧ badM (markM (b.drop at_)) l = false ∧ l.length ≠ 300)) (hK : markM (b.drop at_) ≠ 0 ∧ isRest (markM (b.drop at_)) = true) :
  Calls Try.prog 133 #[.pointer (some ⟨g, 0, none⟩)] W fun e w' => e = .returned (.tuple #[.bool (nxt b at_ l).1, .agg #[.int .i64 (nxt b at_ l).2.1, .int .i64 (nxt b at_ l).2.2.1]]) ∧ SegK w0 w' g gq A c b (nxt b at_ l).2.2.2.1 (nxt b at_ l).2.2.2.2 := by
 obtain ⟨hbel, v, hk, hS, hq⟩ := h
 have HQ := zA hq
 have k0 := zK hk 0
 have k1 := zK hk 1
 have k2 := zK hk 2
 simp at k0 k1 k2
 obtain ⟨Al, cl, el⟩ := Kd.S_slice hS
 subst el
 have HBEL := zA hbel
 have HK := zA hk
 have HS := zA hS
 have HCB := zA hC
 have HCC := zA hc
 have HBB := zA hB
 have hatc : at_ ≤ c := by omega
 have HE := zA hE
 have HKK := zA hK
 clear hE hK
 clear hbel hk hS hC hB hq
 obtain ⟨R, hR⟩ : ∃ R, R = nxt b at_ l := ⟨_, rfl⟩
 rw [← hR]
 have HRR := zA hR
 clear hR
 go_enter Try.func133, Try.ntmps133
 go_upto_region 1 with (fail)
 have hr := blk_new W (Obj.cells #[.int .i64 0, .int .i64 0] 65)
 have HK1 := zA (zD HK.out (Obj.cells #[.int .i64 0, .int .i64 0] 65))
 have HS1 := zA (yE HS.out (Obj.cells #[.int .i64 0, .int .i64 0] 65))
 have HB1 := zA (zC HBEL.out (Obj.cells #[.int .i64 0, .int .i64 0] 65))
 have hgr : g ≠ W.heap.size := by have := blk_lt HK.out; omega
 have hqr : gq ≠ W.heap.size := by have := blk_lt HQ.out; omega
 have HQ1 := zA (zD HQ.out (Obj.cells #[.int .i64 0, .int .i64 0] 65))
 have hgw : w0.heap.size ≤ W.heap.size := HBEL.out.size
 generalize W.heap.size = gr at hr hgr hqr hgw ⊢
 generalize W.alloc (Obj.cells #[.int .i64 0, .int .i64 0] 65) = W1 at hr HK1 HS1 HB1 HQ1 ⊢
 clear k0 k1 k2 HK HS HBEL HQ
 have k0 := zK HK1.out 0
 have k1 := zK HK1.out 1
 have k2 := zK HK1.out 2
 simp at k0 k1 k2
 have HR := zA hr
 clear hr
 go_wp2
 go_quiet (fail)
 go_upto_block 0 with (fail)
 obtain ⟨rest, hrest⟩ : ∃ rest, rest = b.drop at_ := ⟨_, rfl⟩
 have hrl : b.length - at_ = rest.length := by rw [hrest, zR]
 have hrc : Kd.C (Kd.int .u8) w0 (if c = at_ then A else A.map (·.add at_)) rest.length rest := by
  have h9 := Kd.C_drop HCB.out hat HCC.out
  rw [show (Kd.int IntKind.u8).sz = 1 from rfl] at h9
  simp only [Nat.mul_one] at h9
  rw [hrest]
  exact h9
 rw [hrl]
 generalize (if c = at_ then A else Option.map (fun x => x.add at_) A) = Ar at hrc ⊢
 have hrcc : rest.length ≤ c - at_ := by rw [← hrl]; omega
 have HRC := zA hrc
 have HRCC := zA hrcc
 have HREST := zA hrest
 have HRL := zA hrl
 have HRB := zA (show ∀ x ∈ rest, 0 ≤ x ∧ x ≤ 255 from fun x hx => HBB.out x (by rw [hrest] at hx; exact List.mem_of_mem_drop hx))
 have HSG : Aside0 (SegK w0 (W1.drewN nq) g gq A c b at_ l) := ⟨zB HB1.out nq, _, HK1.out, yF HS1.out nq, HQ1.out⟩
 have HR2 : Aside0 ((W1.drewN nq).heap[gr]? = some (.cells #[.int .i64 0, .int .i64 0] 65 (0, 0))) := ⟨HR.out⟩
 have HRC1 := zA (Kd.C_below hrc HSG.out.1)
 generalize hcr : c - at_ = cr at HRCC ⊢
 generalize W1.drewN nq = W2 at HSG HR2 HRC1 ⊢
 clear hrest hrl hrc hrcc HK1 HS1 HB1 HQ1 HR k0 k1 k2 hcr
 have j0 : W2.cell? ⟨g, 0, none⟩ = some (.slice A b.length c) := by obtain ⟨_, v, h2, _⟩ := HSG.out; exact zK h2 0
 have j1 : W2.cell? ⟨g, 1, none⟩ = some (.int .i64 (at_ : Int)) := by obtain ⟨_, v, h2, _⟩ := HSG.out; exact zK h2 1
 have r0 : W2.cell? ⟨gr, 0, none⟩ = some (.int .i64 0) := zK HR2.out 0
 have r1 : W2.cell? ⟨gr, 1, none⟩ = some (.int .i64 0) := zK HR2.out 1
 have f0 : W2.frozen? ⟨gr, 0, none⟩ = false := zJ HR2.out 0
 have f1 : W2.frozen? ⟨gr, 1, none⟩ = false := zJ HR2.out 1
 by_cases hend : rest = [] ∨ rest = [255]
 ·exact absurd hend (by rw [HREST.out]; exact HE.out.1)
 ·have hne : rest ≠ [] := fun e => hend (.inl e)
  have hlr : 0 < rest.length := List.length_pos_iff.2 hne
  obtain ⟨ad, q1, hx0⟩ := Kd.at_int HRC1.out 0 (by omega) (by omega)
  cases q1
  rw [show (0 : Int).toNat = 0 from rfl, Addr.add_zero'] at hx0
  have hx1 : 1 < rest.length → W2.cell? ⟨ad.block, ad.off + 1, none⟩ = some (.int .u8 (rd rest 1)) := fun h => by
   obtain ⟨ad', q2, hx⟩ := Kd.at_int HRC1.out 1 (by omega) (by omega)
   cases q2
   have e := add_field ad 0 1 (by omega)
   rw [Nat.zero_add, Addr.add_zero'] at e
   rw [show (1 : Int).toNat = 1 from rfl, e] at hx
   exact hx
  have HX1 := zA hx1
  obtain ⟨b0, hb0⟩ : ∃ b0, b0 = rd rest 0 := ⟨_, rfl⟩
  obtain ⟨b1, hb1⟩ : ∃ b1, b1 = rd rest 1 := ⟨_, rfl⟩
  obtain ⟨m, hm⟩ : ∃ m, m = markM rest := ⟨_, rfl⟩
  have hm2 : m = if b0 ≠ 255 ∨ b1 = 0 then 0 else b1 := by rw [hm, markM, hb0, hb1]
  have hb0r : 0 ≤ b0 ∧ b0 ≤ 255 := by
   rw [hb0]; cases rest with
   | nil => simp at hlr
   | cons x t => exact HRB.out x List.mem_cons_self
  have hb1r : 0 ≤ b1 ∧ b1 ≤ 255 := by
   rw [hb1]; match rest with
   | [] => simp [rd]
   | [x] => simp [rd]
   | x :: y :: t => exact HRB.out y (by simp)
  have hone : rest.length = 1 → b0 ≠ 255 := by
   intro h e
   obtain ⟨x, rfl⟩ := List.length_eq_one_iff.1 h
   exact hend (.inr (by rw [← e, hb0]; rfl))
  rw [← hb0] at hx0
  have hR3 : R = if m = 254 then (true, 0, 0, at_ + 2, l) else if badM m l then (false, 4, (at_ : Int), at_, l) else if l.length = 300 then (false, 6, (at_ : Int), at_, l)
    else if m = 0 then (if 20000 < (un rest).1.length then (false, 5, (at_ : Int), at_, l) else (false, 0, 0, at_ + (un rest).2, l ++ [⟨0, (un rest).1⟩]))
    else if isRest m then (false, 0, 0, at_ + 2, l ++ [⟨m, []⟩]) else if rest.length < 4 then (false, 3, (b.length : Int), at_, l) else if 20000 < lenM rest then (false, 5, (at_ : Int), at_, l)
    else if (rest.length : Int) < 4 + lenM rest then (false, 3, (b.length : Int), at_, l) else (false, 0, 0, at_ + 4 + (lenM rest).toNat, l ++ [⟨m, (rest.drop 4).take (lenM rest).toNat⟩]) := by
   rw [HRR.out, nxt, ← HREST.out, if_neg hend, ← hm]
  have HR3 := zA hR3
  have HB1E := zA hb1
  have hmr : 0 ≤ m ∧ m ≤ 255 := by rw [hm2]; split <;> omega
  have HE2 := zA (show (¬ (rest = [] ∨ rest = [255]) ∧ m ≠ 254 ∧ badM m l = false ∧ l.length ≠ 300) from by rw [hm, HREST.out]; exact HE.out)
  have HKM := zA (show m ≠ 0 ∧ isRest m = true from by rw [hm, HREST.out]; exact HKK.out)
  have HM2 := zA hm2
  have HMM := zA hm
  have HEND := zA hend
  clear hx1 hb0 hb1 hm hm2 hR3 hend hne HRR
  go_cut [6] from 11 (fun v6 wx => v6 = .int .i64 m ∧ wx = W2)
  case first =>
   have z0 : ((rest.length : Int) == 0) = false := by rw [beq_eq_false_iff_ne]; omega
   by_cases h255 : b0 = 255
   ·have h1 : 1 < rest.length := by
     rcases Nat.lt_or_ge 1 rest.length with h | h
     ·exact h
     ·exact absurd h255 (hone (by omega))
    have z1 : ((rest.length : Int) == 1) = false := by rw [beq_eq_false_iff_ne]; omega
    have hx1 := HX1.out h1
    rw [← show b1 = rd rest 1 from HB1E.out] at hx1
    subst h255
    by_cases hz : b1 = 0
    ·subst hz
     have hmz : m = 0 := by rw [HM2.out]; simp
     subst hmz
     go_wp2
     go_meet
     case rel => exact ⟨rfl, rfl⟩
    ·have hmz : m = b1 := by rw [HM2.out]; simp [hz]
     subst hmz
     go_wp2
     go_meet
     case rel => exact ⟨by first | rfl | (congr 1; omega), rfl⟩
   ·have hmz : m = 0 := by rw [HM2.out]; simp [h255]
    subst hmz
    have z2 : (b0 == 255) = false := by simp [h255]
    by_cases h1 : rest.length = 1
    ·have z1 : ((rest.length : Int) == 1) = true := by simp [h1]
     clear h1
     go_wp2
     go_meet
     case rel => exact ⟨rfl, rfl⟩
    ·have z1 : ((rest.length : Int) == 1) = false := by rw [beq_eq_false_iff_ne]; omega
     go_wp2
     go_meet
     case rel => exact ⟨rfl, rfl⟩
  case rest =>
   obtain ⟨rfl, rfl⟩ := hcut
   by_cases h254 : m = 254
   ·exact absurd h254 HE2.out.2.1
   ·have hz254 : (m == 254) = false := by simp [h254]
    obtain ⟨_, v2, hk2, hs2, _⟩ := HSG.out
    obtain ⟨Al2, cl2, e2⟩ := Kd.S_slice hs2
    subst e2
    have j2 := zK hk2 2
    simp at j2
    have HSR := Kd.S_reads' hs2
    have HSC := zA HSR.2.2
    have HSL := zA HSR.2.1
    have HK2 := zA hk2
    have HS2 := zA hs2
    have HMR := zA (mayRun_val l hl)
    have HMS := zA (mayRest_val l hl)
    have HIR := zA (isRest_val m)
    clear hk2 hs2 HSR
    have hR4 : R = if badM m l then (false, 4, (at_ : Int), at_, l) else if l.length = 300 then (false, 6, (at_ : Int), at_, l)
      else if m = 0 then (if 20000 < (un rest).1.length then (false, 5, (at_ : Int), at_, l) else (false, 0, 0, at_ + (un rest).2, l ++ [⟨0, (un rest).1⟩]))
      else if isRest m then (false, 0, 0, at_ + 2, l ++ [⟨m, []⟩]) else if rest.length < 4 then (false, 3, (b.length : Int), at_, l) else if 20000 < lenM rest then (false, 5, (at_ : Int), at_, l)
      else if (rest.length : Int) < 4 + lenM rest then (false, 3, (b.length : Int), at_, l) else (false, 0, 0, at_ + 4 + (lenM rest).toNat, l ++ [⟨m, (rest.drop 4).take (lenM rest).toNat⟩]) := by
     rw [HR3.out, if_neg h254]
    have HR4 := zA hR4
    clear hR4 HR3
    go_upto_block 1 with (fail)
    go_cut [] from 11 (fun wx => Aside0 (SegK w0 wx g gq A c b at_ l) ∧ Aside0 (wx.heap[gr]? = some (.cells #[.int .i64 0, .int .i64 0] 65 (0, 0))) ∧ Aside0 (badM m l = false) ∧ l.length ≠ 300)
    case first =>
     by_cases h247 : 247 < m
     ·exact absurd HE2.out.2.2.1 (by simp [badM, h247])
     ·by_cases hm0 : m = 0
      ·subst hm0
       cases hmr : mayRunM l with
       | false =>
        exact absurd HE2.out.2.2.1 (by simp [badM, hmr])
       | true =>
        have hbad : badM 0 l = false := by simp [badM, hmr, isRest]
        have HBAD := zA hbad
        have hir0 : isRest 0 = false := by decide
        rw [hmr] at HMR
        rw [hir0] at HIR
        clear hbad hmr hir0
        go_wp2_with fail
        refine (impl_mayRun.calls Al2 cl2 l true _ (yL HSC.out 0) HSL.out HMR.out).mono ?_
        rintro e_ w_ ⟨rfl, ⟨n1, rfl⟩⟩
        go_wp2_with fail
        refine (impl_isRestart.calls 0 false _ HIR.out).mono ?_
        rintro e_ w_ ⟨rfl, ⟨n2, rfl⟩⟩
        by_cases h300 : l.length = 300
        ·exact absurd h300 HE2.out.2.2.2
        ·have h3b : ((l.length : Int) == 300) = false := by rw [beq_eq_false_iff_ne]; omega
         go_wp2
         go_meet
         case rel => exact ⟨⟨HSG.out.drewN _⟩, ⟨HR2.out⟩, HBAD, h300⟩
      ·have hm0b : (m == 0) = false := by simp [hm0]
       cases hir : isRest m with
       | false =>
        have hbad : badM m l = false := by simp [badM, h247, hm0, hir]
        have HBAD := zA hbad
        rw [hir] at HIR
        clear hbad hir
        go_wp2_with fail
        refine (impl_isRestart.calls m false _ HIR.out).mono ?_
        rintro e_ w_ ⟨rfl, ⟨n2, rfl⟩⟩
        by_cases h300 : l.length = 300
        ·exact absurd h300 HE2.out.2.2.2
        ·have h3b : ((l.length : Int) == 300) = false := by rw [beq_eq_false_iff_ne]; omega
         go_wp2
         go_meet
         case rel => exact ⟨⟨HSG.out.drewN _⟩, ⟨HR2.out⟩, HBAD, h300⟩
       | true =>
        cases hmr : mayRestM l with
        | false =>
         exact absurd HE2.out.2.2.1 (by simp [badM, hir, hmr])
        | true =>
         have hbad : badM m l = false := by simp [badM, h247, hm0, hmr]
         have HBAD := zA hbad
         rw [hir] at HIR
         rw [hmr] at HMS
         clear hbad hir hmr
         go_wp2_with fail
         refine (impl_isRestart.calls m true _ HIR.out).mono ?_
         rintro e_ w_ ⟨rfl, ⟨n2, rfl⟩⟩
         go_wp2_with fail
         refine (impl_mayRestart.calls Al2 cl2 l true _ (yL HSC.out _) HSL.out HMS.out).mono ?_
         rintro e_ w_ ⟨rfl, ⟨n3, rfl⟩⟩
         by_cases h300 : l.length = 300
         ·exact absurd h300 HE2.out.2.2.2
         ·have h3b : ((l.length : Int) == 300) = false := by rw [beq_eq_false_iff_ne]; omega
          go_wp2
          go_meet
          case rel => exact ⟨⟨HSG.out.drewN _⟩, ⟨HR2.out⟩, HBAD, h300⟩
    case rest =>
     obtain ⟨HSG3, HRF, HBAD, h300⟩ := hcut
     have hR5 : R = if m = 0 then (if 20000 < (un rest).1.length then (false, 5, (at_ : Int), at_, l) else (false, 0, 0, at_ + (un rest).2, l ++ [⟨0, (un rest).1⟩]))
       else if isRest m then (false, 0, 0, at_ + 2, l ++ [⟨m, []⟩]) else if rest.length < 4 then (false, 3, (b.length : Int), at_, l) else if 20000 < lenM rest then (false, 5, (at_ : Int), at_, l)
       else if (rest.length : Int) < 4 + lenM rest then (false, 3, (b.length : Int), at_, l) else (false, 0, 0, at_ + 4 + (lenM rest).toNat, l ++ [⟨m, (rest.drop 4).take (lenM rest).toNat⟩]) := by
      rw [HR4.out, HBAD.out, if_neg (by decide), if_neg h300]
     have HR5 := zA hR5
     clear hR5 HR4 HSG HR2 HRC1 j0 j1 r0 r1 f0 f1 hx0 j2 HSC HSL HK2 HS2 HMR HMS hz254
     go_upto_block 2 with (fail)
     obtain ⟨hb3, v3, hk3, hs3, hq3⟩ := HSG3.out
     obtain ⟨Al3, cl3, e3⟩ := Kd.S_slice hs3
     subst e3
     have kb := blk_new wc (Obj.cells #[.int .i64 m, .slice none 0 0] 131)
     have KG := zA (zD hk3 (Obj.cells #[.int .i64 m, .slice none 0 0] 131))
     have KQ := zA (zD hq3 (Obj.cells #[.int .i64 m, .slice none 0 0] 131))
     have hsq : gq < wc.heap.size := blk_lt hq3
     have KR := zA (zD HRF.out (Obj.cells #[.int .i64 m, .slice none 0 0] 131))
     have HB6 := zA (zC hb3 (Obj.cells #[.int .i64 m, .slice none 0 0] 131))
     have HS6 := zA (yH (ok' := fun k => k < wc.heap.size) (yE (Kd.S_bound hs3) (Obj.cells #[.int .i64 m, .slice none 0 0] 131)) (fun k hk => hk.2.2.1))
     have hsg : g < wc.heap.size := blk_lt hk3
     have hsr : gr < wc.heap.size := blk_lt HRF.out
     have hs0 : w0.heap.size ≤ wc.heap.size := hb3.size
     have hW6s : (wc.alloc (Obj.cells #[.int .i64 m, .slice none 0 0] 131)).heap.size = wc.heap.size + 1 := yJ ..
     have HRC6 := zA (Kd.C_below HRC.out HB6.out)
     generalize wc.heap.size = gs at kb HS6 hsg hsr hsq hs0 hW6s ⊢
     generalize wc.alloc (Obj.cells #[.int .i64 m, .slice none 0 0] 131) = W6 at kb KG KR KQ HB6 HS6 hW6s HRC6 ⊢
     have KB := zA kb
     have HW6 := zA hW6s
     clear hb3 hk3 hs3 hq3 HSG3 HRF kb hW6s
     go_cut [] from 11 (fun wx => ∃ (n2 : Nat) (d : List Int) (vd : Value), Aside0 (R = (false, 0, 0, n2, l ++ [⟨m, d⟩])) ∧ Aside0 (wx.heap[gs]? = some (.cells #[.int .i64 m, vd] 131 (0, 0))) ∧ Aside0 (wx.heap[g]? = some (.cells #[.slice A b.length c, .int .i64 (n2 : Int), .slice Al3 l.length cl3] 136 (0, 0))) ∧ Aside0 (wx.heap[gr]? = some (.cells #[.int .i64 0, .int .i64 0] 65 (0, 0))) ∧ Aside0 (wx.heap[gq]? = some (.cells #[.int .i64 0, .int .i64 0] 65 (0, 0))) ∧
      Aside0 (Below w0.heap.size w0 wx) ∧ Aside0 (Kd.S k131 131 wx w0.heap.size (fun k => k < gs) (.slice Al3 l.length cl3) l) ∧ Aside0 (Kd.R (Kd.int .u8) 5 wx w0.heap.size (fun k => gs < k) vd d))
     case first =>
      have s0 := zK KG.out 0
      have s1 := zK KG.out 1
      simp at s0 s1
      have t0 := zK KR.out 0
      have t1 := zK KR.out 1
      simp at t0 t1
      have q0 := zJ KR.out 0
      have q1 := zJ KR.out 1
      have q2 := zJ KG.out 1
      have q3 := zJ KB.out 1
      have b1c := zK KB.out 1
      simp at b1c
      by_cases hm0 : m = 0
      ·exact absurd hm0 HKM.out.1
      ·have hm0b : (m == 0) = false := by simp [hm0]
       cases hir : isRest m with
       | true =>
        have hRe : R = (false, 0, 0, at_ + 2, l ++ [⟨m, []⟩]) := by rw [HR5.out, if_neg hm0, if_pos hir]
        have HRE := zA hRe
        rw [hir] at HIR
        clear hRe hir
        go_wp2_with fail
        refine (impl_isRestart.calls m true _ HIR.out).mono ?_
        rintro e_ w_ ⟨rfl, ⟨n2, rfl⟩⟩
        go_wp2
        go_meet
        case rel =>
         refine ⟨at_ + 2, [], .slice none 0 0, HRE, ⟨blk_far (w := W6.drewN n2) KB.out (by show gs ≠ g; omega) _⟩, ⟨blk_set (w := W6.drewN n2) KG.out 1 _⟩, ⟨blk_far (w := W6.drewN n2) KR.out (by show gr ≠ g; omega) _⟩, ⟨blk_far (w := W6.drewN n2) KQ.out hqg _⟩, ⟨zE (zB HB6.out n2) hg⟩, ⟨?_⟩, ⟨Kd.R_nil _ _ _ _ _⟩⟩
         exact yH (yI (p := ⟨g, 1, none⟩) (Kd.S_types (yF HS6.out n2) (show (W6.drewN n2).heap[g]? = _ from KG.out) (by decide)) (fun k hk => hk.2) _) (fun k hk => hk.1)
       | false =>
        rw [HKM.out.2] at hir
        cases hir
     case rest =>
      obtain ⟨n2, d, vd, HRE, KB9, KG9, KR9, KQ9, HB9, HS9, HD9⟩ := hcut
      have hRe := HRE.out
      subst hRe
      obtain ⟨Ad, cd, ed⟩ := Kd.R_slice HD9.out
      subst ed
      have s0 := zK KG9.out 0
      have s2 := zK KG9.out 2
      simp at s0 s2
      have q4 := zJ KG9.out 2
      have b0c := zK KB9.out 0
      have b1c := zK KB9.out 1
      simp at b0c b1c
      have t0 := zK KR9.out 0
      have t1 := zK KR9.out 1
      simp at t0 t1
      have s2a : ∀ o : Obj, (wc.alloc o).cell? ⟨g, 2, none⟩ = some (.slice Al3 l.length cl3) := fun o => (World.cell?_alloc_lt _ _ _ (blk_lt KG9.out)).trans s2
      have b0a : ∀ o : Obj, (wc.alloc o).cell? ⟨gs, 0, none⟩ = some (.int .i64 m) := fun o => (World.cell?_alloc_lt _ _ _ (blk_lt KB9.out)).trans b0c
      have b1a : ∀ o : Obj, (wc.alloc o).cell? ⟨gs, 1, none⟩ = some (.slice Ad d.length cd) := fun o => (World.cell?_alloc_lt _ _ _ (blk_lt KB9.out)).trans b1c
      have HOK := zA (show ∀ k, gs < k → True ∧ some k ≠ (Value.slice Al3 l.length cl3).ownBlock from fun k hk => ⟨trivial, fun e => absurd (S_ok2 HS9.out k e.symm) (by omega)⟩)
      have HO9 := zA (yH (ok' := fun k => True ∧ ¬ gs < k) HS9.out (fun k hk => ⟨trivial, by omega⟩))
      clear HRE
      go_upto_region 31 with (fail)
      go_region_law (refine Kd.S_append_step k131 (w0 := w0) (W := wc.drew) w0.heap.size (by rfl) (.tmp 195) (.tmp 197) 63 131 (.agg #[.int .i64 0, .slice none 0 0]) 32 (by rfl) Try.underlying63 info131 (by rfl) (by decide) (by decide) (.slice Al3 l.length cl3) l ⟨m, d⟩ [.int .i64 m, .slice Ad d.length cd] (fun _ => True) (fun k => gs < k) (by rfl) (by rfl) (k131_mkM _ _ _ _ (zO HD9.out)) HOK.out (fun _ _ => trivial) (yG HO9.out) (below_drew HB9.out) HB9.out.size (by omega) ?_; intro v8 w3 ho hb hg_ hat; obtain ⟨A8, c8, e8⟩ := Kd.S_slice ho; subst e8; have HO3 := zA ho; have HB3 := zA hb; have HG3 := zA hg_; clear ho hb hg_ hat; have i1 := blk_grown (w := wc.drew) KG9.out HG3.out (Kd.S_ne (yG HS9.out) KG9.out (by decide)); have i2 := blk_grown (w := wc.drew) KR9.out HG3.out (Kd.S_ne (yG HS9.out) KR9.out (by decide)); have d3 := zK i1 2; simp at d3; have e3 := zJ i1 2; have I1 := zA i1; have I2 := zA i2; have I3 := zA (blk_grown (w := wc.drew) KQ9.out HG3.out (Kd.S_ne (yG HS9.out) KQ9.out (by decide))); clear i1 i2)
      all_goals
       have hl1 : (l ++ [(⟨m, d⟩ : S131)]).length = l.length + 1 := by simp
       have ho3 := HO3.out
       rw [hl1] at ho3
       have hseg : SegK w0 (w3.setCell ⟨g, 2, none⟩ (.slice A8 (l.length + 1) c8)) g gq A c b n2 (l ++ [⟨m, d⟩]) := ⟨zE HB3.out hg, _, blk_set I1.out 2 _, Kd.S_set ho3 I1.out (by decide) 2 _, blk_far I3.out hqg _⟩
       have hr9 := blk_far I2.out (p := ⟨g, 2, none⟩) (fun e => hgr e.symm) (.slice A8 (l.length + 1) c8)
       have HSEG := zA hseg
       have HR9 := zA hr9
       clear hseg hr9 ho3 hl1
       generalize w3.setCell ⟨g, 2, none⟩ (.slice A8 (l.length + 1) c8) = W9 at HSEG HR9 ⊢
       have u0 := zK HR9.out 0
       have u1 := zK HR9.out 1
       simp at u0 u1
       have u2 := zJ HR9.out 0
       have u3 := zJ HR9.out 1
       go_wp2
       obtain ⟨e1_, e2_⟩ := SegK.fin HSEG.out HR9.out hgr hqr hgw (.int .i64 0) (.int .i64 0)
       refine bodyPost_ret (results_list (rs := [.tmp 2, .cell 3 65]) rfl (by simp) (.tmp (.cell gr 65 #[.int .i64 0, .int .i64 0] (0, 0) _ rfl (by exact e2_) Try.underlying65 rfl (by kernel_rfl) .nil))) rfl ?_
       exact ⟨rfl, by first | exact e1_.drew | exact e1_⟩
set_option maxRecDepth 100000 in
set_option maxHeartbeats 4000000 in
theorem next_calls_b3 (w0 W : World) (g gq : Nat) (A : Option Addr) (c : Nat) (b : List Int) (at_ : Nat) (l : List S131) (h : SegK w0 W g gq A c b at_ l) (hg : w0.heap.size ≤ g) (hqg : gq ≠ g) (hC : Kd.C (Kd.int .u8) w0 A b.length b) (hc : b.length ≤ c) (hat : at_ ≤ b.length) (hlen : b.length ≤ 60000) (hB : ∀ x ∈ b, 0 ≤ x ∧ x ≤ 255) (hl : l.length ≤ 300) (hE : (¬ (b.drop at_ = [] ∨ b.drop at_ = [255]) ∧ markM (b.drop at_) ≠ 254 ∧ badM (markM (b.drop at_)) l = false ∧ l.length ≠ 300)) (hK : markM (b.drop at_) ≠ 0 ∧ isRest (markM (b.drop at_)) = false) :
  Calls Try.prog 133 #[.pointer (some ⟨g, 0, none⟩)] W fun e w' => e = .returned (.tuple #[.bool (nxt b at_ l).1, .agg #[.int .i64 (nxt b at_ l).2.1, .int .i64 (nxt b at_ l).2.2.1]]) ∧ SegK w0 w' g gq A c b (nxt b at_ l).2.2.2.1 (nxt b at_ l).2.2.2.2 := by
 obtain ⟨hbel, v, hk, hS, hq⟩ := h
 have HQ := zA hq
 have k0 := zK hk 0
 have k1 := zK hk 1
 have k2 := zK hk 2
 simp at k0 k1 k2
 obtain ⟨Al, cl, el⟩ := Kd.S_slice hS
 subst el
 have HBEL := zA hbel
 have HK := zA hk
 have HS := zA hS
 have HCB := zA hC
 have HCC := zA hc
 have HBB := zA hB
 have hatc : at_ ≤ c := by omega
 have HE := zA hE
 have HKK := zA hK
 clear hE hK
 clear hbel hk hS hC hB hq
 obtain ⟨R, hR⟩ : ∃ R, R = nxt b at_ l := ⟨_, rfl⟩
 rw [← hR]
 have HRR := zA hR
 clear hR
 go_enter Try.func133, Try.ntmps133
 go_upto_region 1 with (fail)
 have hr := blk_new W (Obj.cells #[.int .i64 0, .int .i64 0] 65)
 have HK1 := zA (zD HK.out (Obj.cells #[.int .i64 0, .int .i64 0] 65))
 have HS1 := zA (yE HS.out (Obj.cells #[.int .i64 0, .int .i64 0] 65))
 have HB1 := zA (zC HBEL.out (Obj.cells #[.int .i64 0, .int .i64 0] 65))
 have hgr : g ≠ W.heap.size := by have := blk_lt HK.out; omega
 have hqr : gq ≠ W.heap.size := by have := blk_lt HQ.out; omega
 have HQ1 := zA (zD HQ.out (Obj.cells #[.int .i64 0, .int .i64 0] 65))
 have hgw : w0.heap.size ≤ W.heap.size := HBEL.out.size
 generalize W.heap.size = gr at hr hgr hqr hgw ⊢
 generalize W.alloc (Obj.cells #[.int .i64 0, .int .i64 0] 65) = W1 at hr HK1 HS1 HB1 HQ1 ⊢
 clear k0 k1 k2 HK HS HBEL HQ
 have k0 := zK HK1.out 0
 have k1 := zK HK1.out 1
 have k2 := zK HK1.out 2
 simp at k0 k1 k2
 have HR := zA hr
 clear hr
 go_wp2
 go_quiet (fail)
 go_upto_block 0 with (fail)
 obtain ⟨rest, hrest⟩ : ∃ rest, rest = b.drop at_ := ⟨_, rfl⟩
 have hrl : b.length - at_ = rest.length := by rw [hrest, zR]
 have hrc : Kd.C (Kd.int .u8) w0 (if c = at_ then A else A.map (·.add at_)) rest.length rest := by
  have h9 := Kd.C_drop HCB.out hat HCC.out
  rw [show (Kd.int IntKind.u8).sz = 1 from rfl] at h9
  simp only [Nat.mul_one] at h9
  rw [hrest]
  exact h9
 rw [hrl]
 generalize (if c = at_ then A else Option.map (fun x => x.add at_) A) = Ar at hrc ⊢
 have hrcc : rest.length ≤ c - at_ := by rw [← hrl]; omega
 have HRC := zA hrc
 have HRCC := zA hrcc
 have HREST := zA hrest
 have HRL := zA hrl
 have HRB := zA (show ∀ x ∈ rest, 0 ≤ x ∧ x ≤ 255 from fun x hx => HBB.out x (by rw [hrest] at hx; exact List.mem_of_mem_drop hx))
 have HSG : Aside0 (SegK w0 (W1.drewN nq) g gq A c b at_ l) := ⟨zB HB1.out nq, _, HK1.out, yF HS1.out nq, HQ1.out⟩
 have HR2 : Aside0 ((W1.drewN nq).heap[gr]? = some (.cells #[.int .i64 0, .int .i64 0] 65 (0, 0))) := ⟨HR.out⟩
 have HRC1 := zA (Kd.C_below hrc HSG.out.1)
 generalize hcr : c - at_ = cr at HRCC ⊢
 generalize W1.drewN nq = W2 at HSG HR2 HRC1 ⊢
 clear hrest hrl hrc hrcc HK1 HS1 HB1 HQ1 HR k0 k1 k2 hcr
 have j0 : W2.cell? ⟨g, 0, none⟩ = some (.slice A b.length c) := by obtain ⟨_, v, h2, _⟩ := HSG.out; exact zK h2 0
 have j1 : W2.cell? ⟨g, 1, none⟩ = some (.int .i64 (at_ : Int)) := by obtain ⟨_, v, h2, _⟩ := HSG.out; exact zK h2 1
 have r0 : W2.cell? ⟨gr, 0, none⟩ = some (.int .i64 0) := zK HR2.out 0
 have r1 : W2.cell? ⟨gr, 1, none⟩ = some (.int .i64 0) := zK HR2.out 1
 have f0 : W2.frozen? ⟨gr, 0, none⟩ = false := zJ HR2.out 0
 have f1 : W2.frozen? ⟨gr, 1, none⟩ = false := zJ HR2.out 1
 by_cases hend : rest = [] ∨ rest = [255]
 ·exact absurd hend (by rw [HREST.out]; exact HE.out.1)
 ·have hne : rest ≠ [] := fun e => hend (.inl e)
  have hlr : 0 < rest.length := List.length_pos_iff.2 hne
  obtain ⟨ad, q1, hx0⟩ := Kd.at_int HRC1.out 0 (by omega) (by omega)
  cases q1
  rw [show (0 : Int).toNat = 0 from rfl, Addr.add_zero'] at hx0
  have hx1 : 1 < rest.length → W2.cell? ⟨ad.block, ad.off + 1, none⟩ = some (.int .u8 (rd rest 1)) := fun h => by
   obtain ⟨ad', q2, hx⟩ := Kd.at_int HRC1.out 1 (by omega) (by omega)
   cases q2
   have e := add_field ad 0 1 (by omega)
   rw [Nat.zero_add, Addr.add_zero'] at e
   rw [show (1 : Int).toNat = 1 from rfl, e] at hx
   exact hx
  have HX1 := zA hx1
  obtain ⟨b0, hb0⟩ : ∃ b0, b0 = rd rest 0 := ⟨_, rfl⟩
  obtain ⟨b1, hb1⟩ : ∃ b1, b1 = rd rest 1 := ⟨_, rfl⟩
  obtain ⟨m, hm⟩ : ∃ m, m = markM rest := ⟨_, rfl⟩
  have hm2 : m = if b0 ≠ 255 ∨ b1 = 0 then 0 else b1 := by rw [hm, markM, hb0, hb1]
  have hb0r : 0 ≤ b0 ∧ b0 ≤ 255 := by
   rw [hb0]; cases rest with
   | nil => simp at hlr
   | cons x t => exact HRB.out x List.mem_cons_self
  have hb1r : 0 ≤ b1 ∧ b1 ≤ 255 := by
   rw [hb1]; match rest with
   | [] => simp [rd]
   | [x] => simp [rd]
   | x :: y :: t => exact HRB.out y (by simp)
  have hone : rest.length = 1 → b0 ≠ 255 := by
   intro h e
   obtain ⟨x, rfl⟩ := List.length_eq_one_iff.1 h
   exact hend (.inr (by rw [← e, hb0]; rfl))
  rw [← hb0] at hx0
  have hR3 : R = if m = 254 then (true, 0, 0, at_ + 2, l) else if badM m l then (false, 4, (at_ : Int), at_, l) else if l.length = 300 then (false, 6, (at_ : Int), at_, l)
    else if m = 0 then (if 20000 < (un rest).1.length then (false, 5, (at_ : Int), at_, l) else (false, 0, 0, at_ + (un rest).2, l ++ [⟨0, (un rest).1⟩]))
    else if isRest m then (false, 0, 0, at_ + 2, l ++ [⟨m, []⟩]) else if rest.length < 4 then (false, 3, (b.length : Int), at_, l) else if 20000 < lenM rest then (false, 5, (at_ : Int), at_, l)
    else if (rest.length : Int) < 4 + lenM rest then (false, 3, (b.length : Int), at_, l) else (false, 0, 0, at_ + 4 + (lenM rest).toNat, l ++ [⟨m, (rest.drop 4).take (lenM rest).toNat⟩]) := by
   rw [HRR.out, nxt, ← HREST.out, if_neg hend, ← hm]
  have HR3 := zA hR3
  have HB1E := zA hb1
  have hmr : 0 ≤ m ∧ m ≤ 255 := by rw [hm2]; split <;> omega
  have HE2 := zA (show (¬ (rest = [] ∨ rest = [255]) ∧ m ≠ 254 ∧ badM m l = false ∧ l.length ≠ 300) from by rw [hm, HREST.out]; exact HE.out)
  have HKM := zA (show m ≠ 0 ∧ isRest m = false from by rw [hm, HREST.out]; exact HKK.out)
  have HM2 := zA hm2
  have HMM := zA hm
  have HEND := zA hend
  clear hx1 hb0 hb1 hm hm2 hR3 hend hne HRR
  go_cut [6] from 11 (fun v6 wx => v6 = .int .i64 m ∧ wx = W2)
  case first =>
   have z0 : ((rest.length : Int) == 0) = false := by rw [beq_eq_false_iff_ne]; omega
   by_cases h255 : b0 = 255
   ·have h1 : 1 < rest.length := by
     rcases Nat.lt_or_ge 1 rest.length with h | h
     ·exact h
     ·exact absurd h255 (hone (by omega))
    have z1 : ((rest.length : Int) == 1) = false := by rw [beq_eq_false_iff_ne]; omega
    have hx1 := HX1.out h1
    rw [← show b1 = rd rest 1 from HB1E.out] at hx1
    subst h255
    by_cases hz : b1 = 0
    ·subst hz
     have hmz : m = 0 := by rw [HM2.out]; simp
     subst hmz
     go_wp2
     go_meet
     case rel => exact ⟨rfl, rfl⟩
    ·have hmz : m = b1 := by rw [HM2.out]; simp [hz]
     subst hmz
     go_wp2
     go_meet
     case rel => exact ⟨by first | rfl | (congr 1; omega), rfl⟩
   ·have hmz : m = 0 := by rw [HM2.out]; simp [h255]
    subst hmz
    have z2 : (b0 == 255) = false := by simp [h255]
    by_cases h1 : rest.length = 1
    ·have z1 : ((rest.length : Int) == 1) = true := by simp [h1]
     clear h1
     go_wp2
     go_meet
     case rel => exact ⟨rfl, rfl⟩
    ·have z1 : ((rest.length : Int) == 1) = false := by rw [beq_eq_false_iff_ne]; omega
     go_wp2
     go_meet
     case rel => exact ⟨rfl, rfl⟩
  case rest =>
   obtain ⟨rfl, rfl⟩ := hcut
   by_cases h254 : m = 254
   ·exact absurd h254 HE2.out.2.1
   ·have hz254 : (m == 254) = false := by simp [h254]
    obtain ⟨_, v2, hk2, hs2, _⟩ := HSG.out
    obtain ⟨Al2, cl2, e2⟩ := Kd.S_slice hs2
    subst e2
    have j2 := zK hk2 2
    simp at j2
    have HSR := Kd.S_reads' hs2
    have HSC := zA HSR.2.2
    have HSL := zA HSR.2.1
    have HK2 := zA hk2
    have HS2 := zA hs2
    have HMR := zA (mayRun_val l hl)
    have HMS := zA (mayRest_val l hl)
    have HIR := zA (isRest_val m)
    clear hk2 hs2 HSR
    have hR4 : R = if badM m l then (false, 4, (at_ : Int), at_, l) else if l.length = 300 then (false, 6, (at_ : Int), at_, l)
      else if m = 0 then (if 20000 < (un rest).1.length then (false, 5, (at_ : Int), at_, l) else (false, 0, 0, at_ + (un rest).2, l ++ [⟨0, (un rest).1⟩]))
      else if isRest m then (false, 0, 0, at_ + 2, l ++ [⟨m, []⟩]) else if rest.length < 4 then (false, 3, (b.length : Int), at_, l) else if 20000 < lenM rest then (false, 5, (at_ : Int), at_, l)
      else if (rest.length : Int) < 4 + lenM rest then (false, 3, (b.length : Int), at_, l) else (false, 0, 0, at_ + 4 + (lenM rest).toNat, l ++ [⟨m, (rest.drop 4).take (lenM rest).toNat⟩]) := by
     rw [HR3.out, if_neg h254]
    have HR4 := zA hR4
    clear hR4 HR3
    go_upto_block 1 with (fail)
    go_cut [] from 11 (fun wx => Aside0 (SegK w0 wx g gq A c b at_ l) ∧ Aside0 (wx.heap[gr]? = some (.cells #[.int .i64 0, .int .i64 0] 65 (0, 0))) ∧ Aside0 (badM m l = false) ∧ l.length ≠ 300)
    case first =>
     by_cases h247 : 247 < m
     ·exact absurd HE2.out.2.2.1 (by simp [badM, h247])
     ·by_cases hm0 : m = 0
      ·subst hm0
       cases hmr : mayRunM l with
       | false =>
        exact absurd HE2.out.2.2.1 (by simp [badM, hmr])
       | true =>
        have hbad : badM 0 l = false := by simp [badM, hmr, isRest]
        have HBAD := zA hbad
        have hir0 : isRest 0 = false := by decide
        rw [hmr] at HMR
        rw [hir0] at HIR
        clear hbad hmr hir0
        go_wp2_with fail
        refine (impl_mayRun.calls Al2 cl2 l true _ (yL HSC.out 0) HSL.out HMR.out).mono ?_
        rintro e_ w_ ⟨rfl, ⟨n1, rfl⟩⟩
        go_wp2_with fail
        refine (impl_isRestart.calls 0 false _ HIR.out).mono ?_
        rintro e_ w_ ⟨rfl, ⟨n2, rfl⟩⟩
        by_cases h300 : l.length = 300
        ·exact absurd h300 HE2.out.2.2.2
        ·have h3b : ((l.length : Int) == 300) = false := by rw [beq_eq_false_iff_ne]; omega
         go_wp2
         go_meet
         case rel => exact ⟨⟨HSG.out.drewN _⟩, ⟨HR2.out⟩, HBAD, h300⟩
      ·have hm0b : (m == 0) = false := by simp [hm0]
       cases hir : isRest m with
       | false =>
        have hbad : badM m l = false := by simp [badM, h247, hm0, hir]
        have HBAD := zA hbad
        rw [hir] at HIR
        clear hbad hir
        go_wp2_with fail
        refine (impl_isRestart.calls m false _ HIR.out).mono ?_
        rintro e_ w_ ⟨rfl, ⟨n2, rfl⟩⟩
        by_cases h300 : l.length = 300
        ·exact absurd h300 HE2.out.2.2.2
        ·have h3b : ((l.length : Int) == 300) = false := by rw [beq_eq_false_iff_ne]; omega
         go_wp2
         go_meet
         case rel => exact ⟨⟨HSG.out.drewN _⟩, ⟨HR2.out⟩, HBAD, h300⟩
       | true =>
        cases hmr : mayRestM l with
        | false =>
         exact absurd HE2.out.2.2.1 (by simp [badM, hir, hmr])
        | true =>
         have hbad : badM m l = false := by simp [badM, h247, hm0, hmr]
         have HBAD := zA hbad
         rw [hir] at HIR
         rw [hmr] at HMS
         clear hbad hir hmr
         go_wp2_with fail
         refine (impl_isRestart.calls m true _ HIR.out).mono ?_
         rintro e_ w_ ⟨rfl, ⟨n2, rfl⟩⟩
         go_wp2_with fail
         refine (impl_mayRestart.calls Al2 cl2 l true _ (yL HSC.out _) HSL.out HMS.out).mono ?_
         rintro e_ w_ ⟨rfl, ⟨n3, rfl⟩⟩
         by_cases h300 : l.length = 300
         ·exact absurd h300 HE2.out.2.2.2
         ·have h3b : ((l.length : Int) == 300) = false := by rw [beq_eq_false_iff_ne]; omega
          go_wp2
          go_meet
          case rel => exact ⟨⟨HSG.out.drewN _⟩, ⟨HR2.out⟩, HBAD, h300⟩
    case rest =>
     obtain ⟨HSG3, HRF, HBAD, h300⟩ := hcut
     have hR5 : R = if m = 0 then (if 20000 < (un rest).1.length then (false, 5, (at_ : Int), at_, l) else (false, 0, 0, at_ + (un rest).2, l ++ [⟨0, (un rest).1⟩]))
       else if isRest m then (false, 0, 0, at_ + 2, l ++ [⟨m, []⟩]) else if rest.length < 4 then (false, 3, (b.length : Int), at_, l) else if 20000 < lenM rest then (false, 5, (at_ : Int), at_, l)
       else if (rest.length : Int) < 4 + lenM rest then (false, 3, (b.length : Int), at_, l) else (false, 0, 0, at_ + 4 + (lenM rest).toNat, l ++ [⟨m, (rest.drop 4).take (lenM rest).toNat⟩]) := by
      rw [HR4.out, HBAD.out, if_neg (by decide), if_neg h300]
     have HR5 := zA hR5
     clear hR5 HR4 HSG HR2 HRC1 j0 j1 r0 r1 f0 f1 hx0 j2 HSC HSL HK2 HS2 HMR HMS hz254
     go_upto_block 2 with (fail)
     obtain ⟨hb3, v3, hk3, hs3, hq3⟩ := HSG3.out
     obtain ⟨Al3, cl3, e3⟩ := Kd.S_slice hs3
     subst e3
     have kb := blk_new wc (Obj.cells #[.int .i64 m, .slice none 0 0] 131)
     have KG := zA (zD hk3 (Obj.cells #[.int .i64 m, .slice none 0 0] 131))
     have KQ := zA (zD hq3 (Obj.cells #[.int .i64 m, .slice none 0 0] 131))
     have hsq : gq < wc.heap.size := blk_lt hq3
     have KR := zA (zD HRF.out (Obj.cells #[.int .i64 m, .slice none 0 0] 131))
     have HB6 := zA (zC hb3 (Obj.cells #[.int .i64 m, .slice none 0 0] 131))
     have HS6 := zA (yH (ok' := fun k => k < wc.heap.size) (yE (Kd.S_bound hs3) (Obj.cells #[.int .i64 m, .slice none 0 0] 131)) (fun k hk => hk.2.2.1))
     have hsg : g < wc.heap.size := blk_lt hk3
     have hsr : gr < wc.heap.size := blk_lt HRF.out
     have hs0 : w0.heap.size ≤ wc.heap.size := hb3.size
     have hW6s : (wc.alloc (Obj.cells #[.int .i64 m, .slice none 0 0] 131)).heap.size = wc.heap.size + 1 := yJ ..
     have HRC6 := zA (Kd.C_below HRC.out HB6.out)
     generalize wc.heap.size = gs at kb HS6 hsg hsr hsq hs0 hW6s ⊢
     generalize wc.alloc (Obj.cells #[.int .i64 m, .slice none 0 0] 131) = W6 at kb KG KR KQ HB6 HS6 hW6s HRC6 ⊢
     have KB := zA kb
     have HW6 := zA hW6s
     clear hb3 hk3 hs3 hq3 HSG3 HRF kb hW6s
     go_cut [] from 11 (fun wx => ∃ (n2 : Nat) (d : List Int) (vd : Value), Aside0 (R = (false, 0, 0, n2, l ++ [⟨m, d⟩])) ∧ Aside0 (wx.heap[gs]? = some (.cells #[.int .i64 m, vd] 131 (0, 0))) ∧ Aside0 (wx.heap[g]? = some (.cells #[.slice A b.length c, .int .i64 (n2 : Int), .slice Al3 l.length cl3] 136 (0, 0))) ∧ Aside0 (wx.heap[gr]? = some (.cells #[.int .i64 0, .int .i64 0] 65 (0, 0))) ∧ Aside0 (wx.heap[gq]? = some (.cells #[.int .i64 0, .int .i64 0] 65 (0, 0))) ∧
      Aside0 (Below w0.heap.size w0 wx) ∧ Aside0 (Kd.S k131 131 wx w0.heap.size (fun k => k < gs) (.slice Al3 l.length cl3) l) ∧ Aside0 (Kd.R (Kd.int .u8) 5 wx w0.heap.size (fun k => gs < k) vd d))
     case first =>
      have s0 := zK KG.out 0
      have s1 := zK KG.out 1
      simp at s0 s1
      have t0 := zK KR.out 0
      have t1 := zK KR.out 1
      simp at t0 t1
      have q0 := zJ KR.out 0
      have q1 := zJ KR.out 1
      have q2 := zJ KG.out 1
      have q3 := zJ KB.out 1
      have b1c := zK KB.out 1
      simp at b1c
      by_cases hm0 : m = 0
      ·exact absurd hm0 HKM.out.1
      ·have hm0b : (m == 0) = false := by simp [hm0]
       cases hir : isRest m with
       | true =>
        rw [HKM.out.2] at hir
        cases hir
       | false =>
        have hR6 : R = if rest.length < 4 then (false, 3, (b.length : Int), at_, l) else if 20000 < lenM rest then (false, 5, (at_ : Int), at_, l)
          else if (rest.length : Int) < 4 + lenM rest then (false, 3, (b.length : Int), at_, l) else (false, 0, 0, at_ + 4 + (lenM rest).toNat, l ++ [⟨m, (rest.drop 4).take (lenM rest).toNat⟩]) := by
         rw [HR5.out, if_neg hm0, hir, if_neg (by decide)]
        have HR6 := zA hR6
        rw [hir] at HIR
        clear hR6 hir
        go_wp2_with fail
        refine (impl_isRestart.calls m false _ HIR.out).mono ?_
        rintro e_ w_ ⟨rfl, ⟨n2, rfl⟩⟩
        have KG2 : Aside0 ((W6.drewN n2).heap[g]? = some (.cells #[.slice A b.length c, .int .i64 (at_ : Int), .slice Al3 l.length cl3] 136 (0, 0))) := ⟨KG.out⟩
        have KR2 : Aside0 ((W6.drewN n2).heap[gr]? = some (.cells #[.int .i64 0, .int .i64 0] 65 (0, 0))) := ⟨KR.out⟩
        have KQ2 : Aside0 ((W6.drewN n2).heap[gq]? = some (.cells #[.int .i64 0, .int .i64 0] 65 (0, 0))) := ⟨KQ.out⟩
        have KB2 : Aside0 ((W6.drewN n2).heap[gs]? = some (.cells #[.int .i64 m, .slice none 0 0] 131 (0, 0))) := ⟨KB.out⟩
        have HB7 := zA (zB HB6.out n2)
        have HS7 := zA (yF HS6.out n2)
        have HRC7 := zA (yL HRC6.out n2)
        have HW7 : Aside0 ((W6.drewN n2).heap.size = gs + 1) := ⟨HW6.out⟩
        clear s0 s1 t0 t1 q0 q1 q2 q3 b1c KG KR KQ KB HB6 HS6 HRC6 HW6
        generalize W6.drewN n2 = W7 at KG2 KR2 KQ2 KB2 HB7 HS7 HRC7 HW7 ⊢
        have s0 := zK KG2.out 0
        have s1 := zK KG2.out 1
        simp at s0 s1
        have t0 := zK KR2.out 0
        have t1 := zK KR2.out 1
        simp at t0 t1
        have q0 := zJ KR2.out 0
        have q1 := zJ KR2.out 1
        have q2 := zJ KG2.out 1
        have q3 := zJ KB2.out 1
        have b1c := zK KB2.out 1
        simp at b1c
        have hseg : SegK w0 W7 g gq A c b at_ l := ⟨HB7.out, _, KG2.out, yH HS7.out (fun _ _ => trivial), KQ2.out⟩
        have HSEG := zA hseg
        clear hseg
        have hrl2 : rest.length ≤ 60000 := by have := HRL.out; omega
        by_cases h4 : rest.length < 4
        ·have hRe : R = (false, 3, (b.length : Int), at_, l) := by rw [HR6.out, if_pos h4]
         subst hRe
         go_wp2
         go_region
         go_wp2
         obtain ⟨e1_, e2_⟩ := SegK.fin HSEG.out KR2.out hgr hqr hgw (.int .i64 3) (.int .i64 b.length)
         refine bodyPost_ret (results_list (rs := [.tmp 2, .cell 3 65]) rfl (by simp) (.tmp (.cell gr 65 #[.int .i64 3, .int .i64 b.length] (0, 0) _ rfl (by exact e2_) Try.underlying65 rfl (by kernel_rfl) .nil))) rfl ?_
         exact ⟨rfl, by first | exact e1_.drew | exact e1_⟩
        ·have hc4 : ∀ i : Nat, 0 < i → i < rest.length → W7.cell? ⟨ad.block, ad.off + i, none⟩ = some (.int .u8 (rd rest i)) := fun i h0 h => by
          obtain ⟨ad', q2, hx⟩ := Kd.at_int HRC7.out (i : Int) (by omega) (by omega)
          cases q2
          have e := add_field ad 0 i h0
          rw [Nat.zero_add, Addr.add_zero'] at e
          rw [Int.toNat_natCast, e] at hx
          exact hx
         have c2_ := hc4 2 (by omega) (by omega)
         have c3_ := hc4 3 (by omega) (by omega)
         obtain ⟨y2, hy2⟩ : ∃ y, y = rd rest 2 := ⟨_, rfl⟩
         obtain ⟨y3, hy3⟩ : ∃ y, y = rd rest 3 := ⟨_, rfl⟩
         rw [show ((2 : Nat) : Int) = 2 from rfl, ← hy2] at c2_
         rw [show ((3 : Nat) : Int) = 3 from rfl, ← hy3] at c3_
         have hb23 : (0 ≤ y2 ∧ y2 ≤ 255) ∧ (0 ≤ y3 ∧ y3 ≤ 255) := by
          rw [hy2, hy3]
          match rest, h4 with
          | [], h4 => simp at h4
          | [_], h4 => simp at h4
          | [_, _], h4 => simp at h4
          | [_, _, _], h4 => simp at h4
          | p0 :: p1 :: p2 :: p3 :: t, _ => exact ⟨HRB.out p2 (by simp), HRB.out p3 (by simp)⟩
         obtain ⟨⟨y20, y21⟩, y30, y31⟩ := hb23
         have hor := or_byte y2 y3 y20 (by omega) y30 y31
         have hln : lenM rest = y2 * 256 + y3 := by rw [lenM, hy2, hy3]
         rw [hln] at HR6
         clear hc4 hy2 hy3 hln
         go_wp2
         go_quiet (fail)
         obtain ⟨n, hn⟩ : ∃ n : Nat, y2 * 256 + y3 = (n : Int) := ⟨(y2 * 256 + y3).toNat, by omega⟩
         rw [hn]
         rw [hn] at HR6
         rw [Int.toNat_natCast] at HR6
         clear hor hn c2_ c3_
         by_cases h20 : 20000 < (n : Int)
         ·have hRe : R = (false, 5, (at_ : Int), at_, l) := by rw [HR6.out, if_neg h4, if_pos h20]
          subst hRe
          go_wp2
          obtain ⟨e1_, e2_⟩ := SegK.fin (HSEG.out.drewN nq) (show (W7.drewN nq).heap[gr]? = some (.cells #[.int .i64 0, .int .i64 0] 65 (0, 0)) from KR2.out) hgr hqr hgw (.int .i64 5) (.int .i64 at_)
          refine bodyPost_ret (results_list (rs := [.tmp 2, .cell 3 65]) rfl (by simp) (.tmp (.cell gr 65 #[.int .i64 5, .int .i64 at_] (0, 0) _ rfl (by exact e2_) Try.underlying65 rfl (by kernel_rfl) .nil))) rfl ?_
          exact ⟨rfl, by first | exact e1_.drew | exact e1_⟩
         ·by_cases h4n : (rest.length : Int) < 4 + n
          ·have hRe : R = (false, 3, (b.length : Int), at_, l) := by rw [HR6.out, if_neg h4, if_neg h20, if_pos h4n]
           subst hRe
           go_wp2
           go_region
           go_wp2
           obtain ⟨e1_, e2_⟩ := SegK.fin (HSEG.out.drewN nq) (show (W7.drewN nq).heap[gr]? = some (.cells #[.int .i64 0, .int .i64 0] 65 (0, 0)) from KR2.out) hgr hqr hgw (.int .i64 3) (.int .i64 b.length)
           refine bodyPost_ret (results_list (rs := [.tmp 2, .cell 3 65]) rfl (by simp) (.tmp (.cell gr 65 #[.int .i64 3, .int .i64 b.length] (0, 0) _ rfl (by exact e2_) Try.underlying65 rfl (by kernel_rfl) .nil))) rfl ?_
           exact ⟨rfl, by first | exact e1_.drew | exact e1_⟩
          ·have hRe : R = (false, 0, 0, at_ + 4 + n, l ++ [⟨m, (rest.drop 4).take n⟩]) := by rw [HR6.out, if_neg h4, if_neg h20, if_neg h4n]
           have HRE := zA hRe
           clear hRe
           have hcc := HRCC.out
           have hln4 : ((rest.drop 4).take n).length = n := by rw [zQ, zR]; omega
           have HLN := zA hln4
           have HCT := zA (Kd.C_take (m := n) (Kd.C_drop (m := 4) (c := cr) HRC7.out (by omega) HRCC.out) (by rw [zR]; omega))
           by_cases hcr : cr = 4
           ·have HC8 : Aside0 (Kd.C (Kd.int .u8) (W7.drewN nq) (some ad) ((rest.drop 4).take n).length ((rest.drop 4).take n)) := by
             have h9 := HCT.out
             rw [if_pos hcr] at h9
             exact ⟨yL h9 nq⟩
            subst hcr
            clear hln4 HCT
            go_wp2_with fail
            rw [show (Value.slice (some ad) n 0) = Value.slice (some ad) ((rest.drop 4).take n).length (4 - 4) by rw [HLN.out]]
            refine (clone_calls (some ad) (4 - 4) ((rest.drop 4).take n) _ HC8.out (by rw [HLN.out]; omega) (by rw [HLN.out]; omega)).mono ?_
            rintro e_ w2 ⟨vd, rfl, hd, hb2⟩
            obtain ⟨Ad, cd, ed⟩ := Kd.R_slice hd
            subst ed
            obtain ⟨dd, hdd⟩ : ∃ dd, dd = (rest.drop 4).take n := ⟨_, rfl⟩
            rw [← hdd] at HRE hd
            have HD := zA (zP (ok' := fun k => gs < k) (Kd.R_lower (Kd.R_bound hd) (show w0.heap.size ≤ (W7.drewN nq).heap.size by have := HW7.out; show w0.heap.size ≤ W7.heap.size; omega)) (fun k hk => by have h1 := hk.2.1; have h2 : (W7.drewN nq).heap.size = gs + 1 := HW7.out; omega))
            have KG8 := zA (blk_below (w := W7.drewN nq) KG2.out hb2)
            have KR8 := zA (blk_below (w := W7.drewN nq) KR2.out hb2)
            have KQ8 := zA (blk_below (w := W7.drewN nq) KQ2.out hb2)
            have KB8 := zA (blk_below (w := W7.drewN nq) KB2.out hb2)
            have HB8 := zA (Below.trans (zB HB7.out nq) (hb2.mono (zB HB7.out nq).size))
            have HS8 := zA (Kd.S_below (yF HS7.out nq) hb2)
            rw [← hdd]
            clear hd hb2 hdd s0 s1 t0 t1 q0 q1 q2 q3 b1c
            have s1 := zK KG8.out 1
            simp at s1
            have b1c := zK KB8.out 1
            simp at b1c
            have q2 := zJ KG8.out 1
            have q3 := zJ KB8.out 1
            have hnsg : ¬ gs = g := by omega
            have hngs : ¬ g = gs := by omega
            go_wp2
            go_meet
            case rel =>
             refine ⟨at_ + 4 + n, dd, .slice Ad dd.length cd, HRE, ⟨blk_far (blk_set KB8.out 1 _) (by show gs ≠ g; omega) _⟩, ⟨blk_set (blk_far KG8.out (by show g ≠ gs; omega) _) 1 _⟩, ⟨blk_far (blk_far KR8.out (by show gr ≠ gs; omega) _) (by show gr ≠ g; omega) _⟩, ⟨blk_far (blk_far KQ8.out (by show gq ≠ gs; omega) _) hqg _⟩, ⟨zE (zE HB8.out hs0) hg⟩, ⟨?_⟩, ⟨?_⟩⟩
             ·exact yH (yI (p := ⟨g, 1, none⟩) (yI (p := ⟨gs, 1, none⟩) (Kd.S_types HS8.out KG8.out (by decide)) (fun k hk => by show k ≠ gs; have := hk.1; omega) _) (fun k hk => hk.2) _) (fun k hk => hk.1)
             ·exact zP (Kd.R_far (p := ⟨g, 1, none⟩) (Kd.R_far (p := ⟨gs, 1, none⟩) (zY HD.out KG8.out (by decide)) (fun k hk => by show k ≠ gs; have := hk.1; omega) _) (fun k hk => hk.2) _) (fun k hk => hk.1)
           ·have HC8 : Aside0 (Kd.C (Kd.int .u8) (W7.drewN nq) (some ⟨ad.block, ad.off + 4, none⟩) ((rest.drop 4).take n).length ((rest.drop 4).take n)) := by
             have h9 := HCT.out
             rw [if_neg hcr] at h9
             have e := add_field ad 0 4 (by omega)
             rw [Nat.zero_add, Addr.add_zero'] at e
             simp only [Option.map_some] at h9
             rw [show 4 * (Kd.int IntKind.u8).sz = 4 from rfl, e] at h9
             exact ⟨yL h9 nq⟩
            clear hln4 HCT
            go_wp2_with fail
            rw [show (Value.slice (some ⟨ad.block, ad.off + 4, none⟩) n (cr - 4)) = Value.slice (some ⟨ad.block, ad.off + 4, none⟩) ((rest.drop 4).take n).length (cr - 4) by rw [HLN.out]]
            refine (clone_calls (some ⟨ad.block, ad.off + 4, none⟩) (cr - 4) ((rest.drop 4).take n) _ HC8.out (by rw [HLN.out]; omega) (by rw [HLN.out]; omega)).mono ?_
            rintro e_ w2 ⟨vd, rfl, hd, hb2⟩
            obtain ⟨Ad, cd, ed⟩ := Kd.R_slice hd
            subst ed
            obtain ⟨dd, hdd⟩ : ∃ dd, dd = (rest.drop 4).take n := ⟨_, rfl⟩
            rw [← hdd] at HRE hd
            have HD := zA (zP (ok' := fun k => gs < k) (Kd.R_lower (Kd.R_bound hd) (show w0.heap.size ≤ (W7.drewN nq).heap.size by have := HW7.out; show w0.heap.size ≤ W7.heap.size; omega)) (fun k hk => by have h1 := hk.2.1; have h2 : (W7.drewN nq).heap.size = gs + 1 := HW7.out; omega))
            have KG8 := zA (blk_below (w := W7.drewN nq) KG2.out hb2)
            have KR8 := zA (blk_below (w := W7.drewN nq) KR2.out hb2)
            have KQ8 := zA (blk_below (w := W7.drewN nq) KQ2.out hb2)
            have KB8 := zA (blk_below (w := W7.drewN nq) KB2.out hb2)
            have HB8 := zA (Below.trans (zB HB7.out nq) (hb2.mono (zB HB7.out nq).size))
            have HS8 := zA (Kd.S_below (yF HS7.out nq) hb2)
            rw [← hdd]
            clear hd hb2 hdd s0 s1 t0 t1 q0 q1 q2 q3 b1c
            have s1 := zK KG8.out 1
            simp at s1
            have b1c := zK KB8.out 1
            simp at b1c
            have q2 := zJ KG8.out 1
            have q3 := zJ KB8.out 1
            have hnsg : ¬ gs = g := by omega
            have hngs : ¬ g = gs := by omega
            go_wp2
            go_meet
            case rel =>
             refine ⟨at_ + 4 + n, dd, .slice Ad dd.length cd, HRE, ⟨blk_far (blk_set KB8.out 1 _) (by show gs ≠ g; omega) _⟩, ⟨blk_set (blk_far KG8.out (by show g ≠ gs; omega) _) 1 _⟩, ⟨blk_far (blk_far KR8.out (by show gr ≠ gs; omega) _) (by show gr ≠ g; omega) _⟩, ⟨blk_far (blk_far KQ8.out (by show gq ≠ gs; omega) _) hqg _⟩, ⟨zE (zE HB8.out hs0) hg⟩, ⟨?_⟩, ⟨?_⟩⟩
             ·exact yH (yI (p := ⟨g, 1, none⟩) (yI (p := ⟨gs, 1, none⟩) (Kd.S_types HS8.out KG8.out (by decide)) (fun k hk => by show k ≠ gs; have := hk.1; omega) _) (fun k hk => hk.2) _) (fun k hk => hk.1)
             ·exact zP (Kd.R_far (p := ⟨g, 1, none⟩) (Kd.R_far (p := ⟨gs, 1, none⟩) (zY HD.out KG8.out (by decide)) (fun k hk => by show k ≠ gs; have := hk.1; omega) _) (fun k hk => hk.2) _) (fun k hk => hk.1)
     case rest =>
      obtain ⟨n2, d, vd, HRE, KB9, KG9, KR9, KQ9, HB9, HS9, HD9⟩ := hcut
      have hRe := HRE.out
      subst hRe
      obtain ⟨Ad, cd, ed⟩ := Kd.R_slice HD9.out
      subst ed
      have s0 := zK KG9.out 0
      have s2 := zK KG9.out 2
      simp at s0 s2
      have q4 := zJ KG9.out 2
      have b0c := zK KB9.out 0
      have b1c := zK KB9.out 1
      simp at b0c b1c
      have t0 := zK KR9.out 0
      have t1 := zK KR9.out 1
      simp at t0 t1
      have s2a : ∀ o : Obj, (wc.alloc o).cell? ⟨g, 2, none⟩ = some (.slice Al3 l.length cl3) := fun o => (World.cell?_alloc_lt _ _ _ (blk_lt KG9.out)).trans s2
      have b0a : ∀ o : Obj, (wc.alloc o).cell? ⟨gs, 0, none⟩ = some (.int .i64 m) := fun o => (World.cell?_alloc_lt _ _ _ (blk_lt KB9.out)).trans b0c
      have b1a : ∀ o : Obj, (wc.alloc o).cell? ⟨gs, 1, none⟩ = some (.slice Ad d.length cd) := fun o => (World.cell?_alloc_lt _ _ _ (blk_lt KB9.out)).trans b1c
      have HOK := zA (show ∀ k, gs < k → True ∧ some k ≠ (Value.slice Al3 l.length cl3).ownBlock from fun k hk => ⟨trivial, fun e => absurd (S_ok2 HS9.out k e.symm) (by omega)⟩)
      have HO9 := zA (yH (ok' := fun k => True ∧ ¬ gs < k) HS9.out (fun k hk => ⟨trivial, by omega⟩))
      clear HRE
      go_upto_region 31 with (fail)
      go_region_law (refine Kd.S_append_step k131 (w0 := w0) (W := wc.drew) w0.heap.size (by rfl) (.tmp 195) (.tmp 197) 63 131 (.agg #[.int .i64 0, .slice none 0 0]) 32 (by rfl) Try.underlying63 info131 (by rfl) (by decide) (by decide) (.slice Al3 l.length cl3) l ⟨m, d⟩ [.int .i64 m, .slice Ad d.length cd] (fun _ => True) (fun k => gs < k) (by rfl) (by rfl) (k131_mkM _ _ _ _ (zO HD9.out)) HOK.out (fun _ _ => trivial) (yG HO9.out) (below_drew HB9.out) HB9.out.size (by omega) ?_; intro v8 w3 ho hb hg_ hat; obtain ⟨A8, c8, e8⟩ := Kd.S_slice ho; subst e8; have HO3 := zA ho; have HB3 := zA hb; have HG3 := zA hg_; clear ho hb hg_ hat; have i1 := blk_grown (w := wc.drew) KG9.out HG3.out (Kd.S_ne (yG HS9.out) KG9.out (by decide)); have i2 := blk_grown (w := wc.drew) KR9.out HG3.out (Kd.S_ne (yG HS9.out) KR9.out (by decide)); have d3 := zK i1 2; simp at d3; have e3 := zJ i1 2; have I1 := zA i1; have I2 := zA i2; have I3 := zA (blk_grown (w := wc.drew) KQ9.out HG3.out (Kd.S_ne (yG HS9.out) KQ9.out (by decide))); clear i1 i2)
      all_goals
       have hl1 : (l ++ [(⟨m, d⟩ : S131)]).length = l.length + 1 := by simp
       have ho3 := HO3.out
       rw [hl1] at ho3
       have hseg : SegK w0 (w3.setCell ⟨g, 2, none⟩ (.slice A8 (l.length + 1) c8)) g gq A c b n2 (l ++ [⟨m, d⟩]) := ⟨zE HB3.out hg, _, blk_set I1.out 2 _, Kd.S_set ho3 I1.out (by decide) 2 _, blk_far I3.out hqg _⟩
       have hr9 := blk_far I2.out (p := ⟨g, 2, none⟩) (fun e => hgr e.symm) (.slice A8 (l.length + 1) c8)
       have HSEG := zA hseg
       have HR9 := zA hr9
       clear hseg hr9 ho3 hl1
       generalize w3.setCell ⟨g, 2, none⟩ (.slice A8 (l.length + 1) c8) = W9 at HSEG HR9 ⊢
       have u0 := zK HR9.out 0
       have u1 := zK HR9.out 1
       simp at u0 u1
       have u2 := zJ HR9.out 0
       have u3 := zJ HR9.out 1
       go_wp2
       obtain ⟨e1_, e2_⟩ := SegK.fin HSEG.out HR9.out hgr hqr hgw (.int .i64 0) (.int .i64 0)
       refine bodyPost_ret (results_list (rs := [.tmp 2, .cell 3 65]) rfl (by simp) (.tmp (.cell gr 65 #[.int .i64 0, .int .i64 0] (0, 0) _ rfl (by exact e2_) Try.underlying65 rfl (by kernel_rfl) .nil))) rfl ?_
       exact ⟨rfl, by first | exact e1_.drew | exact e1_⟩
theorem next_calls (w0 W : World) (g gq : Nat) (A : Option Addr) (c : Nat) (b : List Int) (at_ : Nat) (l : List S131) (h : SegK w0 W g gq A c b at_ l) (hg : w0.heap.size ≤ g) (hqg : gq ≠ g) (hC : Kd.C (Kd.int .u8) w0 A b.length b) (hc : b.length ≤ c) (hat : at_ ≤ b.length) (hlen : b.length ≤ 60000) (hB : ∀ x ∈ b, 0 ≤ x ∧ x ≤ 255) (hl : l.length ≤ 300) :
  Calls Try.prog 133 #[.pointer (some ⟨g, 0, none⟩)] W fun e w' => e = .returned (.tuple #[.bool (nxt b at_ l).1, .agg #[.int .i64 (nxt b at_ l).2.1, .int .i64 (nxt b at_ l).2.2.1]]) ∧ SegK w0 w' g gq A c b (nxt b at_ l).2.2.2.1 (nxt b at_ l).2.2.2.2 := by
 by_cases hE : (¬ (b.drop at_ = [] ∨ b.drop at_ = [255]) ∧ markM (b.drop at_) ≠ 254 ∧ badM (markM (b.drop at_)) l = false ∧ l.length ≠ 300)
 ·by_cases h0 : markM (b.drop at_) = 0
  ·exact next_calls_b1 w0 W g gq A c b at_ l h hg hqg hC hc hat hlen hB hl hE h0
  ·cases hi : isRest (markM (b.drop at_)) with
   | true => exact next_calls_b2 w0 W g gq A c b at_ l h hg hqg hC hc hat hlen hB hl hE ⟨h0, hi⟩
   | false => exact next_calls_b3 w0 W g gq A c b at_ l h hg hqg hC hc hat hlen hB hl hE ⟨h0, hi⟩
 ·exact next_calls_a w0 W g gq A c b at_ l h hg hqg hC hc hat hlen hB hl hE
end Go.Proofs.Ytcjjmfpkhhdmlaa.G


namespace Go.Proofs.Ytcjjmfpkhhdmlaa.G
open Go.RowKit Go.Proofs.YtcjjmfpkhhdmlaaW.PrintWords Go.Proofs.YtcjjmfpkhhdmlaaW.PrintLast Go.Proofs.YtcjjmfpkhhdmlaaW.PrintMore
attribute [local go_sem] max2_int min2_int max_two min_two max_three min_three max_four min_four   -- for this text's walks alone
--import Derived.BigRegion
--import Derived.Deep.CutBlock
--import Derived.Deep.CutRange
--import Derived.Deep.LoopGhost
theorem un_pos (l : List Int) (h0 : l ≠ []) (h1 : l ≠ [255]) (h : rd l 0 ≠ 255 ∨ rd l 1 = 0) : 1 ≤ (un l).2 := by
 match l, h0, h1, h with
 | [], h0, _, _ => exact absurd rfl h0
 | [x], _, h1, _ =>
  have hx : x ≠ 255 := fun e => h1 (by rw [e])
  rw [un_ne x [] hx]; simp
 | x :: y :: t, _, _, h =>
  by_cases hx : x = 255
  ·subst hx
   have hy : y = 0 := by simpa [rd] using h
   subst hy
   rw [un_two]; simp
  ·rw [un_ne x _ hx]; simp
theorem nxt_facts (b : List Int) (at_ : Nat) (l : List S131) (hat : at_ ≤ b.length) (hl : l.length ≤ 300) :
  (nxt b at_ l).2.2.2.1 ≤ b.length ∧ (nxt b at_ l).2.2.2.2.length ≤ 300 ∧ ((nxt b at_ l).2.1 = 0 → (nxt b at_ l).1 = false → at_ < (nxt b at_ l).2.2.2.1) := by
 have hrl : (b.drop at_).length = b.length - at_ := zR
 obtain ⟨rest, hrest⟩ : ∃ rest, rest = b.drop at_ := ⟨_, rfl⟩
 have hm1 : markM rest ≠ 0 → 2 ≤ rest.length := by
  intro hm
  unfold markM at hm
  match rest, hm with
  | [], hm => simp [rd] at hm
  | [x], hm => simp [rd] at hm
  | x :: y :: t, _ => simp
 unfold nxt
 rw [← hrest] at hrl ⊢
 by_cases he : rest = [] ∨ rest = [255]
 ·rw [if_pos he]; exact ⟨hat, hl, fun h => by simp at h⟩
 rw [if_neg he]
 by_cases h254 : markM rest = 254
 ·rw [if_pos h254]
  have := hm1 (by omega)
  exact ⟨by simp only []; omega, hl, fun _ h => by simp at h⟩
 rw [if_neg h254]
 by_cases hb : badM (markM rest) l = true
 ·rw [if_pos hb]; exact ⟨hat, hl, fun h => by simp at h⟩
 rw [if_neg hb]
 by_cases h3 : l.length = 300
 ·rw [if_pos h3]; exact ⟨hat, hl, fun h => by simp at h⟩
 rw [if_neg h3]
 by_cases hm0 : markM rest = 0
 ·rw [if_pos hm0]
  by_cases h20 : 20000 < (un rest).1.length
  ·rw [if_pos h20]; exact ⟨hat, hl, fun h => by simp at h⟩
  ·rw [if_neg h20]
   have h1 := un_le rest
   have h2 : 1 ≤ (un rest).2 := un_pos rest (fun e => he (.inl e)) (fun e => he (.inr e)) (by unfold markM at hm0; by_cases hc : rd rest 0 ≠ 255 ∨ rd rest 1 = 0; exact hc; rw [if_neg hc] at hm0; exact .inr hm0)
   exact ⟨by simp only []; omega, by simp; omega, fun _ _ => by simp only []; omega⟩
 rw [if_neg hm0]
 have hr2 := hm1 hm0
 by_cases hi : isRest (markM rest) = true
 ·rw [if_pos hi]; exact ⟨by simp only []; omega, by simp; omega, fun _ _ => by simp only []; omega⟩
 rw [if_neg hi]
 by_cases h4 : rest.length < 4
 ·rw [if_pos h4]; exact ⟨hat, hl, fun h => by simp at h⟩
 rw [if_neg h4]
 by_cases h20 : 20000 < lenM rest
 ·rw [if_pos h20]; exact ⟨hat, hl, fun h => by simp at h⟩
 rw [if_neg h20]
 by_cases h4n : (rest.length : Int) < 4 + lenM rest
 ·rw [if_pos h4n]; exact ⟨hat, hl, fun h => by simp at h⟩
 rw [if_neg h4n]
 exact ⟨by simp only []; omega, by simp; omega, fun _ _ => by simp only []; omega⟩
/-- the program's loop -/
def sfI (b : List Int) : Nat → Nat → List S131 → List S131 × Bool × Int × Int
 | 0, _, l => (l, false, 0, 0)
 | n + 1, at_, l =>
  if (nxt b at_ l).2.1 = 3 then (if mayRestM (nxt b at_ l).2.2.2.2 = true ∧ b.length - (nxt b at_ l).2.2.2.1 < 2 then ((nxt b at_ l).2.2.2.2.dropLast, false, 0, 0) else ((nxt b at_ l).2.2.2.2, false, 0, 0))
  else if (nxt b at_ l).2.1 ≠ 0 then ((nxt b at_ l).2.2.2.2, false, (nxt b at_ l).2.1, (nxt b at_ l).2.2.1)
  else if (nxt b at_ l).1 = true then (if (nxt b at_ l).2.2.2.1 < b.length then ((nxt b at_ l).2.2.2.2, true, 7, ((nxt b at_ l).2.2.2.1 : Int)) else ((nxt b at_ l).2.2.2.2, true, 0, 0))
  else sfI b n (nxt b at_ l).2.2.2.1 (nxt b at_ l).2.2.2.2
def soFarM (b : List Int) : List S131 × Bool × Int × Int :=
 if 60000 < b.length then ([], false, 1, 0) else if b.length = 0 ∨ (b.length = 1 ∧ rd b 0 = 84) then ([], false, 0, 0)
 else if b.length < 2 ∨ rd b 0 ≠ 84 ∨ rd b 1 ≠ 83 then ([], false, 2, 0) else sfI b (b.length + 1) 2 []
def impl_SegsSoFar.f (l0 : List Int) : Option (List S131 × Bool × Int × Int) := if isB l0 ∧ l0.length ≤ 1048576 then some (soFarM l0) else none
/-- the answer is laid down -/
theorem segTold {w0 W : World} {gq : Nat} {v : Value} {l : List S131} (h1 : Below w0.heap.size w0 W) (h3 : Kd.S k131 131 W w0.heap.size (fun _ => True) v l) {x y : Value} (h4 : W.heap[gq]? = some (.cells #[x, y] 65 (0, 0))) (hg : w0.heap.size ≤ gq) (C P : Value) :
  Kd.S k131 131 ((W.setCell ⟨gq, 0, none⟩ C).setCell ⟨gq, 1, none⟩ P) w0.heap.size (fun _ => True) v l ∧ Below w0.heap.size w0 ((W.setCell ⟨gq, 0, none⟩ C).setCell ⟨gq, 1, none⟩ P) ∧ ((W.setCell ⟨gq, 0, none⟩ C).setCell ⟨gq, 1, none⟩ P).heap[gq]? = some (.cells #[C, P] 65 (0, 0)) :=
 ⟨yH (yI (p := ⟨gq, 1, none⟩) (yI (p := ⟨gq, 0, none⟩) (Kd.S_types h3 h4 (by decide)) (fun k hk => hk.2) _) (fun k hk => hk.2) _) (fun _ _ => trivial), zE (zE h1 hg) hg, blk_set (blk_set h4 0 C) 1 P⟩
set_option maxRecDepth 100000 in
set_option maxHeartbeats 4000000 in
theorem impl_SegsSoFar.calls (A0 : Option Addr) (c0 : Nat) (l0 : List Int) (r1 : List S131) (r2 : Bool) (r3 : Int) (r4 : Int) (w : World) (hr0 : Kd.C (Kd.int .u8) w A0 l0.length l0) (hc0 : l0.length ≤ c0) (h : impl_SegsSoFar.f l0 = some (r1, r2, r3, r4)) :
  Calls Try.prog 59 #[.slice A0 l0.length c0] w fun e w' => ∃ v0_ : Value, e = .returned (.tuple #[v0_, .bool r2, .agg #[.int .i64 r3, .int .i64 r4]]) ∧ Kd.S k131 131 w' w.heap.size (fun _ => True) v0_ r1 ∧ Below w.heap.size w w' := by
 unfold impl_SegsSoFar.f at h
 split at h
 ·rename_i hcond
  obtain ⟨hbb, hlen⟩ := hcond
  have HBB := zA (isB_all hbb)
  have HH := zA (Option.some.inj h)
  have HR0 := zA hr0
  have HC0 := zA hc0
  clear h hr0 hc0 hbb
  go_enter Try.func59, Try.ntmps59
  go_upto_region 1 with (fail)
  have hq := blk_new w (Obj.cells #[.int .i64 0, .int .i64 0] 65)
  have HB1 := zA (zC (Below.refl w.heap.size w) (Obj.cells #[.int .i64 0, .int .i64 0] 65))
  generalize hgqe : w.heap.size = gq at hq ⊢
  generalize w.alloc (Obj.cells #[.int .i64 0, .int .i64 0] 65) = W1 at hq HB1 ⊢
  have r0 := zK hq 0
  have r1c := zK hq 1
  simp at r0 r1c
  have f0 := zJ hq 0
  have f1 := zJ hq 1
  have HQ := zA hq
  have HGQ := zA hgqe
  have hgq : w.heap.size ≤ gq := by omega
  clear hq hgqe
  by_cases h1 : 60000 < l0.length
  ·have z1 : decide ((60000 : Int) < (l0.length : Int)) = true := zT (by omega)
   have hh := HH.out
   rw [show soFarM l0 = ([], false, 1, 0) by unfold soFarM; rw [if_pos h1]] at hh
   injection hh with t1 t2
   injection t2 with t2 t3
   injection t3 with t3 t4
   subst t1; subst t2; subst t3; subst t4
   go_wp2
   obtain ⟨e0_, e1_, e2_⟩ := segTold HB1.out (Kd.S_nil _ _ _ _ _) HQ.out hgq (.int .i64 1) (.int .i64 0)
   refine bodyPost_ret (results_list (rs := [.tmp 2, .tmp 3, .cell 4 65]) rfl (by simp) (.tmp (.tmp (.cell gq 65 #[.int .i64 1, .int .i64 0] (0, 0) _ rfl (by exact e2_) Try.underlying65 rfl (by kernel_rfl) .nil)))) rfl ?_
   exact ⟨_, rfl, by first | exact e0_ | exact yG e0_, by first | exact e1_ | exact below_drew e1_⟩
  ·have z1 : decide ((60000 : Int) < (l0.length : Int)) = false := decide_eq_false (by omega)
   by_cases hL0 : l0.length = 0
   ·have z2 : ((l0.length : Int) == 0) = true := by rw [beq_iff_eq]; omega
    have HL0 := zA hL0
    clear hL0
    have hh := HH.out
    rw [show soFarM l0 = ([], false, 0, 0) by unfold soFarM; rw [if_neg h1, if_pos (.inl HL0.out)]] at hh
    injection hh with t1 t2
    injection t2 with t2 t3
    injection t3 with t3 t4
    subst t1; subst t2; subst t3; subst t4
    go_wp2
    obtain ⟨e0_, e1_, e2_⟩ := segTold HB1.out (Kd.S_nil _ _ _ _ _) HQ.out hgq (.int .i64 0) (.int .i64 0)
    refine bodyPost_ret (results_list (rs := [.tmp 2, .tmp 3, .cell 4 65]) rfl (by simp) (.tmp (.tmp (.cell gq 65 #[.int .i64 0, .int .i64 0] (0, 0) _ rfl (by exact e2_) Try.underlying65 rfl (by kernel_rfl) .nil)))) rfl ?_
    exact ⟨_, rfl, by first | exact e0_ | exact yG e0_, by first | exact e1_ | exact below_drew e1_⟩
   ·have z2 : ((l0.length : Int) == 0) = false := by rw [beq_eq_false_iff_ne]; omega
    obtain ⟨ad, e1, hx0⟩ := Kd.at_int (Kd.C_below HR0.out HB1.out) 0 (by omega) (by omega)
    cases e1
    rw [show (0 : Int).toNat = 0 from rfl, Addr.add_zero'] at hx0
    obtain ⟨y0, hy0⟩ : ∃ y0, y0 = rd l0 0 := ⟨_, rfl⟩
    rw [← hy0] at hx0
    have HY0 := zA hy0
    clear hy0
    by_cases hL1 : l0.length = 1
    ·have z3 : ((l0.length : Int) == 1) = true := by rw [beq_iff_eq]; omega
     have z4 : decide ((l0.length : Int) < 2) = true := zT (by omega)
     have HL1 := zA hL1
     clear hL1
     by_cases h84 : y0 = 84
     ·subst h84
      have hh := HH.out
      rw [show soFarM l0 = ([], false, 0, 0) by unfold soFarM; rw [if_neg h1, if_pos (.inr ⟨HL1.out, HY0.out.symm⟩)]] at hh
      injection hh with t1 t2
      injection t2 with t2 t3
      injection t3 with t3 t4
      subst t1; subst t2; subst t3; subst t4
      go_wp2
      obtain ⟨e0_, e1_, e2_⟩ := segTold HB1.out (Kd.S_nil _ _ _ _ _) HQ.out hgq (.int .i64 0) (.int .i64 0)
      refine bodyPost_ret (results_list (rs := [.tmp 2, .tmp 3, .cell 4 65]) rfl (by simp) (.tmp (.tmp (.cell gq 65 #[.int .i64 0, .int .i64 0] (0, 0) _ rfl (by exact e2_) Try.underlying65 rfl (by kernel_rfl) .nil)))) rfl ?_
      exact ⟨_, rfl, by first | exact e0_ | exact yG e0_, by first | exact e1_ | exact below_drew e1_⟩
     ·have z5 : (y0 == 84) = false := by rw [beq_eq_false_iff_ne]; exact h84
      have hh := HH.out
      rw [show soFarM l0 = ([], false, 2, 0) by unfold soFarM; rw [if_neg h1, if_neg (fun hc => hc.elim hL0 (fun h => h84 (HY0.out.trans h.2))), if_pos (.inl (by have := HL1.out; omega))]] at hh
      injection hh with t1 t2
      injection t2 with t2 t3
      injection t3 with t3 t4
      subst t1; subst t2; subst t3; subst t4
      go_wp2
      obtain ⟨e0_, e1_, e2_⟩ := segTold HB1.out (Kd.S_nil _ _ _ _ _) HQ.out hgq (.int .i64 2) (.int .i64 0)
      refine bodyPost_ret (results_list (rs := [.tmp 2, .tmp 3, .cell 4 65]) rfl (by simp) (.tmp (.tmp (.cell gq 65 #[.int .i64 2, .int .i64 0] (0, 0) _ rfl (by exact e2_) Try.underlying65 rfl (by kernel_rfl) .nil)))) rfl ?_
      exact ⟨_, rfl, by first | exact e0_ | exact yG e0_, by first | exact e1_ | exact below_drew e1_⟩
    ·have z3 : ((l0.length : Int) == 1) = false := by rw [beq_eq_false_iff_ne]; omega
     have z4 : decide ((l0.length : Int) < 2) = false := decide_eq_false (by omega)
     have hn2 : ¬ (l0.length = 0 ∨ l0.length = 1 ∧ rd l0 0 = 84) := fun hc => hc.elim hL0 (fun h => hL1 h.1)
     have HN2 := zA hn2
     obtain ⟨ad', e2, hx1⟩ := Kd.at_int (Kd.C_below HR0.out HB1.out) 1 (by omega) (by omega)
     cases e2
     have ea := add_field ad 0 1 (by omega)
     rw [Nat.zero_add, Addr.add_zero'] at ea
     rw [show (1 : Int).toNat = 1 from rfl, ea] at hx1
     obtain ⟨y1, hy1⟩ : ∃ y1, y1 = rd l0 1 := ⟨_, rfl⟩
     rw [← hy1] at hx1
     have HY1 := zA hy1
     clear hy1 hn2 ea
     by_cases h84 : y0 = 84
     ·subst h84
      by_cases h83 : y1 = 83
      ·subst h83
       have HIS := zA (show sfI l0 (l0.length + 1) 2 [] = (r1, r2, r3, r4) by
        have hh := HH.out
        rwa [show soFarM l0 = sfI l0 (l0.length + 1) 2 [] by unfold soFarM; rw [if_neg h1, if_neg HN2.out, if_neg (by rw [← HY0.out, ← HY1.out]; simp; omega)]] at hh)
       have z6 : ((83 : Int) != 83) = false := by decide
       have hl60 : l0.length ≤ 60000 := by omega
       have hl2 : 2 ≤ l0.length := by omega
       go_upto_region 7 with (fail)
       have kg := blk_new W1 (Obj.cells #[.slice (some ad) l0.length c0, .int .i64 2, .slice none 0 0] 136)
       have HSG := zA (show SegK w (W1.alloc (Obj.cells #[.slice (some ad) l0.length c0, .int .i64 2, .slice none 0 0] 136)) W1.heap.size gq (some ad) c0 l0 2 [] from ⟨zC HB1.out _, .slice none 0 0, kg, Kd.S_nil _ _ _ _ _, zD HQ.out _⟩)
       have hqg : gq ≠ W1.heap.size := by have := blk_lt HQ.out; omega
       have hg : w.heap.size ≤ W1.heap.size := HB1.out.size
       clear kg
       go_wp2
       generalize W1.heap.size = g at HSG hqg hg ⊢
       generalize W1.alloc (Obj.cells #[.slice (some ad) l0.length c0, .int .i64 2, .slice none 0 0] 136) = W3 at HSG ⊢
       clear HB1 HQ r0 r1c f0 f1 hx0 hx1 HH HN2 z1 z2 z3 z4 z6
       go_loopg [] (l0.length + 1) (fun kq w' => ∃ (at_ : Nat) (l : List S131), at_ ≤ l0.length ∧ l.length ≤ 300 ∧ l0.length < at_ + kq ∧ Aside0 (SegK w w' g gq (some ad) c0 l0 at_ l) ∧ Aside0 (sfI l0 kq at_ l = (r1, r2, r3, r4)))
       case atStart => exact ⟨2, [], hl2, by simp, by omega, HSG, HIS⟩
       case round =>
        clear HSG HIS
        obtain ⟨at_, l, hat, hl, hfu, HSG, HIS⟩ := hrel
        cases gk with
        | zero => omega
        | succ k1 =>
        obtain ⟨hn1, hn2, hn3⟩ := nxt_facts l0 at_ l hat hl
        have his := HIS.out
        rw [sfI] at his
        go_wp2_with fail
        refine (next_calls w _ g gq (some ad) c0 l0 at_ l HSG.out hg hqg HR0.out HC0.out hat hl60 HBB.out hl).mono ?_
        rintro e_ w2 ⟨rfl, hs⟩
        obtain ⟨fin_, hfin⟩ : ∃ q, q = (nxt l0 at_ l).1 := ⟨_, rfl⟩
        obtain ⟨code, hcode⟩ : ∃ q, q = (nxt l0 at_ l).2.1 := ⟨_, rfl⟩
        obtain ⟨pos, hpos⟩ : ∃ q, q = (nxt l0 at_ l).2.2.1 := ⟨_, rfl⟩
        obtain ⟨at2, hat2⟩ : ∃ q, q = (nxt l0 at_ l).2.2.2.1 := ⟨_, rfl⟩
        obtain ⟨l2, hl2_⟩ : ∃ q, q = (nxt l0 at_ l).2.2.2.2 := ⟨_, rfl⟩
        rw [← hfin, ← hcode, ← hpos, ← hat2, ← hl2_] at his
        rw [← hat2, ← hl2_] at hs
        rw [← hat2] at hn1 hn3
        rw [← hl2_] at hn2
        rw [← hcode, ← hfin] at hn3
        rw [← hfin, ← hcode, ← hpos]
        have HS2 := zA hs
        have HIS2 := zA his
        have HN3 := zA hn3
        clear hs his hfin hcode hpos hat2 hl2_ HSG HIS hn3
        go_upto_region 9 with (fail)
        obtain ⟨hb2, v2, hk2, hsl, hq2⟩ := HS2.out
        obtain ⟨Al, cl, el⟩ := Kd.S_slice hsl
        subst el
        have hf := blk_new w2 (Obj.cells #[.int .i64 code, .int .i64 pos] 65)
        have HB5 := zA (zC hb2 (Obj.cells #[.int .i64 code, .int .i64 pos] 65))
        have HK5 := zA (zD hk2 (Obj.cells #[.int .i64 code, .int .i64 pos] 65))
        have HS5 := zA (yE hsl (Obj.cells #[.int .i64 code, .int .i64 pos] 65))
        have HQ5 := zA (zD hq2 (Obj.cells #[.int .i64 code, .int .i64 pos] 65))
        have hqf : gq ≠ w2.heap.size := by have := blk_lt hq2; omega
        clear hb2 hk2 hsl hq2 HS2
        generalize w2.heap.size = gf at hf hqf ⊢
        generalize w2.alloc (Obj.cells #[.int .i64 code, .int .i64 pos] 65) = W5 at hf HB5 HK5 HS5 HQ5 ⊢
        have h0 := zK hf 0
        have h1c := zK hf 1
        simp at h0 h1c
        have s1 := zK HK5.out 1
        have s2 := zK HK5.out 2
        simp at s1 s2
        have q4 := zJ HK5.out 2
        have r0 := zK HQ5.out 0
        have r1c := zK HQ5.out 1
        simp at r0 r1c
        have f0 := zJ HQ5.out 0
        have f1 := zJ HQ5.out 1
        have HF := zA hf
        clear hf
        by_cases hc3 : code = 3
        ·subst hc3
         have HMV := zA (mayRest_val l2 hn2)
         have HC5 := zA (Kd.S_reads' HS5.out).2.2
         have HL5 := zA (Kd.S_reads' HS5.out).2.1
         cases hmr : mayRestM l2 with
         | false =>
          rw [hmr] at HMV
          have his := HIS2.out
          rw [if_pos rfl, if_neg (fun h => by rw [hmr] at h; exact absurd h.1 (by decide))] at his
          injection his with t1 t2
          injection t2 with t2 t3
          injection t3 with t3 t4
          subst t1; subst t2; subst t3; subst t4
          clear hmr
          go_wp2_with fail
          refine (impl_mayRestart.calls Al cl l2 false _ (by repeat (first | exact HC5.out | (with_reducible refine yL ?_ _) | (with_reducible refine yM ?_))) HL5.out HMV.out).mono ?_
          rintro e_ w_ ⟨rfl, ⟨n1, rfl⟩⟩
          go_wp2
          obtain ⟨e0_, e1_, e2_⟩ := segTold (zB HB5.out n1) (yF HS5.out n1) (show (W5.drewN n1).heap[gq]? = _ from HQ5.out) hgq (.int .i64 0) (.int .i64 0)
          refine bodyPost_ret (results_list (rs := [.tmp 2, .tmp 3, .cell 4 65]) rfl (by simp) (.tmp (.tmp (.cell gq 65 #[.int .i64 0, .int .i64 0] (0, 0) _ rfl (by exact e2_) Try.underlying65 rfl (by kernel_rfl) .nil)))) rfl ?_
          exact ⟨_, rfl, by first | exact e0_ | exact yG e0_, by first | exact e1_ | exact below_drew e1_⟩
         | true =>
          rw [hmr] at HMV
          by_cases hsh : l0.length - at2 < 2
          ·have hne : l2 ≠ [] := by intro e; rw [e] at hmr; simp [mayRestM] at hmr
           have hl2p : 0 < l2.length := List.length_pos_iff.2 hne
           have hcl5 := HL5.out
           have zs : decide ((l0.length : Int) - (at2 : Int) < 2) = true := zT (by omega)
           have his := HIS2.out
           rw [if_pos rfl, if_pos ⟨hmr, hsh⟩] at his
           injection his with t1 t2
           injection t2 with t2 t3
           injection t3 with t3 t4
           subst t1; subst t2; subst t3; subst t4
           clear hmr hne
           go_wp2_with fail
           refine (impl_mayRestart.calls Al cl l2 true _ (by repeat (first | exact HC5.out | (with_reducible refine yL ?_ _) | (with_reducible refine yM ?_))) HL5.out HMV.out).mono ?_
           rintro e_ w_ ⟨rfl, ⟨n1, rfl⟩⟩
           go_wp2
           have hz8 : Kd.S k131 131 ((W5.drewN n1).setCell ⟨g, 2, none⟩ (.slice Al (l2.length - 1) cl)) w.heap.size (fun _ => True) (.slice Al (l2.length - 1) cl) l2.dropLast := by
            rw [List.dropLast_eq_take]
            exact Kd.S_set (Kd.S_take (yF HS5.out n1) (by omega)) (show (W5.drewN n1).heap[g]? = _ from HK5.out) (by decide) 2 _
           have hq8 := blk_far (w := W5.drewN n1) HQ5.out (p := ⟨g, 2, none⟩) hqg (.slice Al (l2.length - 1) cl)
           have hb8 : Below w.heap.size w ((W5.drewN n1).setCell ⟨g, 2, none⟩ (.slice Al (l2.length - 1) cl)) := zE (zB HB5.out n1) hg
           obtain ⟨e0_, e1_, e2_⟩ := segTold hb8 hz8 hq8 hgq (.int .i64 0) (.int .i64 0)
           refine bodyPost_ret (results_list (rs := [.tmp 2, .tmp 3, .cell 4 65]) rfl (by simp) (.tmp (.tmp (.cell gq 65 #[.int .i64 0, .int .i64 0] (0, 0) _ rfl (by exact e2_) Try.underlying65 rfl (by kernel_rfl) .nil)))) rfl ?_
           exact ⟨_, rfl, by first | exact e0_ | exact yG e0_, by first | exact e1_ | exact below_drew e1_⟩
          ·have zs : decide ((l0.length : Int) - (at2 : Int) < 2) = false := decide_eq_false (by omega)
           have his := HIS2.out
           rw [if_pos rfl, if_neg (fun h => hsh h.2)] at his
           injection his with t1 t2
           injection t2 with t2 t3
           injection t3 with t3 t4
           subst t1; subst t2; subst t3; subst t4
           clear hmr
           go_wp2_with fail
           refine (impl_mayRestart.calls Al cl l2 true _ (by repeat (first | exact HC5.out | (with_reducible refine yL ?_ _) | (with_reducible refine yM ?_))) HL5.out HMV.out).mono ?_
           rintro e_ w_ ⟨rfl, ⟨n1, rfl⟩⟩
           go_wp2
           obtain ⟨e0_, e1_, e2_⟩ := segTold (zB HB5.out n1) (yF HS5.out n1) (show (W5.drewN n1).heap[gq]? = _ from HQ5.out) hgq (.int .i64 0) (.int .i64 0)
           refine bodyPost_ret (results_list (rs := [.tmp 2, .tmp 3, .cell 4 65]) rfl (by simp) (.tmp (.tmp (.cell gq 65 #[.int .i64 0, .int .i64 0] (0, 0) _ rfl (by exact e2_) Try.underlying65 rfl (by kernel_rfl) .nil)))) rfl ?_
           exact ⟨_, rfl, by first | exact e0_ | exact yG e0_, by first | exact e1_ | exact below_drew e1_⟩
        ·have z3 : (code == 3) = false := by rw [beq_eq_false_iff_ne]; exact hc3
         by_cases hc0 : code = 0
         ·subst hc0
          cases fin_ with
          | true =>
           by_cases hlt : at2 < l0.length
           ·have zl : decide ((at2 : Int) < (l0.length : Int)) = true := zT (by omega)
            have his := HIS2.out
            rw [if_neg hc3, if_neg (by simp), if_pos rfl, if_pos hlt] at his
            injection his with t1 t2
            injection t2 with t2 t3
            injection t3 with t3 t4
            subst t1; subst t2; subst t3; subst t4
            go_wp2
            go_region
            go_wp2
            obtain ⟨e0_, e1_, e2_⟩ := segTold HB5.out HS5.out HQ5.out hgq (.int .i64 7) (.int .i64 at2)
            refine bodyPost_ret (results_list (rs := [.tmp 2, .tmp 3, .cell 4 65]) rfl (by simp) (.tmp (.tmp (.cell gq 65 #[.int .i64 7, .int .i64 at2] (0, 0) _ rfl (by exact e2_) Try.underlying65 rfl (by kernel_rfl) .nil)))) rfl ?_
            exact ⟨_, rfl, by first | exact e0_ | exact yG e0_, by first | exact e1_ | exact below_drew e1_⟩
           ·have zl : decide ((at2 : Int) < (l0.length : Int)) = false := decide_eq_false (by omega)
            have his := HIS2.out
            rw [if_neg hc3, if_neg (by simp), if_pos rfl, if_neg hlt] at his
            injection his with t1 t2
            injection t2 with t2 t3
            injection t3 with t3 t4
            subst t1; subst t2; subst t3; subst t4
            go_wp2
            obtain ⟨e0_, e1_, e2_⟩ := segTold HB5.out HS5.out HQ5.out hgq (.int .i64 0) (.int .i64 0)
            refine bodyPost_ret (results_list (rs := [.tmp 2, .tmp 3, .cell 4 65]) rfl (by simp) (.tmp (.tmp (.cell gq 65 #[.int .i64 0, .int .i64 0] (0, 0) _ rfl (by exact e2_) Try.underlying65 rfl (by kernel_rfl) .nil)))) rfl ?_
            exact ⟨_, rfl, by first | exact e0_ | exact yG e0_, by first | exact e1_ | exact below_drew e1_⟩
          | false =>
           have hn4 := HN3.out rfl rfl
           have his := HIS2.out
           rw [if_neg hc3, if_neg (by simp), if_neg (by simp)] at his
           have HIS3 := zA his
           clear his
           go_wp2
           go_roundg k1
           case rel => exact ⟨at2, l2, hn1, hn2, by omega, ⟨HB5.out, _, HK5.out, HS5.out, HQ5.out⟩, HIS3⟩
           case measure => omega
         ·have z0 : (code != 0) = true := by simp [hc0]
          have his := HIS2.out
          rw [if_neg hc3, if_pos hc0] at his
          injection his with t1 t2
          injection t2 with t2 t3
          injection t3 with t3 t4
          subst t1; subst t2; subst t3; subst t4
          go_wp2
          go_region
          go_wp2
          obtain ⟨e0_, e1_, e2_⟩ := segTold HB5.out HS5.out HQ5.out hgq (.int .i64 code) (.int .i64 pos)
          refine bodyPost_ret (results_list (rs := [.tmp 2, .tmp 3, .cell 4 65]) rfl (by simp) (.tmp (.tmp (.cell gq 65 #[.int .i64 code, .int .i64 pos] (0, 0) _ rfl (by exact e2_) Try.underlying65 rfl (by kernel_rfl) .nil)))) rfl ?_
          exact ⟨_, rfl, by first | exact e0_ | exact yG e0_, by first | exact e1_ | exact below_drew e1_⟩
      ·have z6 : (y1 != 83) = true := by simp [h83]
       have hh := HH.out
       rw [show soFarM l0 = ([], false, 2, 0) by unfold soFarM; rw [if_neg h1, if_neg HN2.out, if_pos (.inr (.inr (by rw [← HY1.out]; exact h83)))]] at hh
       injection hh with t1 t2
       injection t2 with t2 t3
       injection t3 with t3 t4
       subst t1; subst t2; subst t3; subst t4
       go_wp2
       obtain ⟨e0_, e1_, e2_⟩ := segTold HB1.out (Kd.S_nil _ _ _ _ _) HQ.out hgq (.int .i64 2) (.int .i64 0)
       refine bodyPost_ret (results_list (rs := [.tmp 2, .tmp 3, .cell 4 65]) rfl (by simp) (.tmp (.tmp (.cell gq 65 #[.int .i64 2, .int .i64 0] (0, 0) _ rfl (by exact e2_) Try.underlying65 rfl (by kernel_rfl) .nil)))) rfl ?_
       exact ⟨_, rfl, by first | exact e0_ | exact yG e0_, by first | exact e1_ | exact below_drew e1_⟩
     ·have z5 : (y0 == 84) = false := by rw [beq_eq_false_iff_ne]; exact h84
      have z6 : (y0 != 84) = true := by simp [h84]
      have hh := HH.out
      rw [show soFarM l0 = ([], false, 2, 0) by unfold soFarM; rw [if_neg h1, if_neg HN2.out, if_pos (.inr (.inl (by rw [← HY0.out]; exact h84)))]] at hh
      injection hh with t1 t2
      injection t2 with t2 t3
      injection t3 with t3 t4
      subst t1; subst t2; subst t3; subst t4
      go_wp2
      obtain ⟨e0_, e1_, e2_⟩ := segTold HB1.out (Kd.S_nil _ _ _ _ _) HQ.out hgq (.int .i64 2) (.int .i64 0)
      refine bodyPost_ret (results_list (rs := [.tmp 2, .tmp 3, .cell 4 65]) rfl (by simp) (.tmp (.tmp (.cell gq 65 #[.int .i64 2, .int .i64 0] (0, 0) _ rfl (by exact e2_) Try.underlying65 rfl (by kernel_rfl) .nil)))) rfl ?_
      exact ⟨_, rfl, by first | exact e0_ | exact yG e0_, by first | exact e1_ | exact below_drew e1_⟩
 ·cases h
end Go.Proofs.Ytcjjmfpkhhdmlaa.G


namespace Go.Proofs.Ytcjjmfpkhhdmlaa.G
open Go.RowKit Go.Proofs.YtcjjmfpkhhdmlaaW.PrintWords Go.Proofs.YtcjjmfpkhhdmlaaW.PrintLast Go.Proofs.YtcjjmfpkhhdmlaaW.PrintMore
attribute [local go_sem] max2_int min2_int max_two min_two max_three min_three max_four min_four   -- for this text's walks alone
mutual
def spec_SegsSoFar.j0 : Nat → List Int → List (S131) → Bool → Option ((List (S131)) × Bool × Int × Int)
 | 0, _, _, _ => none
 | k + 1, x0, x5, x31 => if x31 = true then (some (x5, false, 0, 0)) else (if (x0.length : Int) < 2 then (spec_SegsSoFar.j1 k x0 x5 true) else (if 0 < (x0.length : Int) then (if (rd x0 0) = 84 then (if 1 < (x0.length : Int) then (spec_SegsSoFar.j1 k x0 x5 ((rd x0 1) != 83)) else (none)) else (spec_SegsSoFar.j1 k x0 x5 true)) else (none)))
def spec_SegsSoFar.j1 : Nat → List Int → List (S131) → Bool → Option ((List (S131)) × Bool × Int × Int)
 | 0, _, _, _ => none
 | k + 1, x0, x5, x48 => if x48 = true then (some (x5, false, 2, 0)) else (spec_SegsSoFar.l0 k x0 x5 2 0)
def spec_SegsSoFar.l0 : Nat → List Int → List (S131) → Int → Int → Option ((List (S131)) × Bool × Int × Int)
 | 0, _, _, _, _ => none
 | k + 1, x0, x5, x6, x7 => (spec_l02Next.f k x0 x6 x7 ((x5.length : Int) == 300)).bind fun bt1027 => (if bt1027.2.2.2.1 = 3 then (some (x5, false, 0, 0)) else (if bt1027.2.2.2.1 = 0 then (if bt1027.2.2.2.2.2 = true then (spec_SegsSoFar.j3 k x0 x5 bt1027.2.2.1 bt1027.2.2.2.2.2 (decide (bt1027.2.2.1 < (x0.length : Int))) bt1027.1 bt1027.2.1) else (spec_SegsSoFar.j3 k x0 x5 bt1027.2.2.1 bt1027.2.2.2.2.2 false bt1027.1 bt1027.2.1)) else (some (x5, false, bt1027.2.2.2.1, bt1027.2.2.2.2.1))))
def spec_SegsSoFar.j3 : Nat → List Int → List (S131) → Int → Bool → Bool → Int → List Int → Option ((List (S131)) × Bool × Int × Int)
 | 0, _, _, _, _, _, _, _ => none
 | k + 1, x0, x5, x9, x11, x79, x1036000, x1036001 => if x79 = true then (some (x5, true, 7, x9)) else (if x11 = true then (some (x5, true, 0, 0)) else (if x1036000 = 0 then (if (wrap64 (x9 + 1)) ≥ (x0.length : Int) then (some (x5, false, 0, 0)) else (if x5.length < 4398046511104 then ((spec_l02Kind.f x1036000).bind fun t1040 => (spec_SegsSoFar.l0 k x0 (x5 ++ [(⟨x1036000, x1036001⟩ : S131)]) x9 t1040)) else (none))) else (if x5.length < 4398046511104 then ((spec_l02Kind.f x1036000).bind fun t1044 => (spec_SegsSoFar.l0 k x0 (x5 ++ [(⟨x1036000, x1036001⟩ : S131)]) x9 t1044)) else (none))))
end
def spec_SegsSoFar.f (k : Nat) (l0 : List Int) : Option ((List (S131)) × Bool × Int × Int) := (some (([] : List (S131)) : List (S131))).bind fun y1021 => (if (l0.length : Int) > 60000 then (some (y1021, false, 1, 0)) else (if (l0.length : Int) = 0 then (spec_SegsSoFar.j0 k l0 y1021 true) else (if (l0.length : Int) = 1 then (if 0 < (l0.length : Int) then (spec_SegsSoFar.j0 k l0 y1021 ((rd l0 0) == 84)) else (none)) else (spec_SegsSoFar.j0 k l0 y1021 false))))
set_option maxHeartbeats 8000000 in
set_option maxRecDepth 100000 in
theorem spec_SegsSoFar.calls (k : Nat) (A0 : Option Addr) (c0 : Nat) (l0 : List Int) (r1 : List (S131)) (r2 : Bool) (r3 : Int) (r4 : Int) (w : World) (hr0 : Kd.C (Kd.int .u8) w A0 l0.length l0) (hc0 : l0.length ≤ c0) (h : spec_SegsSoFar.f k l0 = some (r1, r2, r3, r4)) :
  Calls Try.prog 58 #[.slice A0 l0.length c0] w fun e w' => ∃ v0_ : Value, e = .returned (.tuple #[v0_, .bool r2, .agg #[.int .i64 r3, .int .i64 r4]]) ∧ Kd.S k131 131 w' w.heap.size (fun _ => True) v0_ r1 ∧ Below w.heap.size w w' := by
 have hu65 := Try.underlying65
 have hu131 := Try.underlying131
 have HR0 := zA hr0
 have HC0 := zA hc0
 clear hr0 hc0
 have HB := zA (Below.refl w.heap.size w)
 have H : ((some (([] : List (S131)) : List (S131))).bind fun y1021 => (if (l0.length : Int) > 60000 then (some (y1021, false, 1, 0)) else (if (l0.length : Int) = 0 then (spec_SegsSoFar.j0 k l0 y1021 true) else (if (l0.length : Int) = 1 then (if 0 < (l0.length : Int) then (spec_SegsSoFar.j0 k l0 y1021 ((rd l0 0) == 84)) else (none)) else (spec_SegsSoFar.j0 k l0 y1021 false))))) = some (r1, r2, r3, r4) := h
 clear h
 obtain ⟨y1021, hy1021⟩ : ∃ y_ : List (S131), y_ = (([] : List (S131))) := ⟨_, rfl⟩
 replace H : (if (l0.length : Int) > 60000 then (some (y1021, false, 1, 0)) else (if (l0.length : Int) = 0 then (spec_SegsSoFar.j0 k l0 y1021 true) else (if (l0.length : Int) = 1 then (if 0 < (l0.length : Int) then (spec_SegsSoFar.j0 k l0 y1021 ((rd l0 0) == 84)) else (none)) else (spec_SegsSoFar.j0 k l0 y1021 false)))) = some (r1, r2, r3, r4) := by first | (rw [hy1021]; with_reducible exact H) | (have H2_ := (zS _ _).symm.trans H; rw [hy1021]; with_reducible exact H2_) | (have H2_ := (zS _ _).symm.trans H; with_reducible exact H2_) | with_reducible exact H | (rw [hy1021]; exact H) | exact H
 have Ny1021 := zA hy1021
 clear hy1021
 by_cases c2 : (l0.length : Int) > 60000
 ·rw [if_pos c2] at H
  have c2b0 : decide (60000 < (l0.length : Int)) = true := zT c2
  have c2b1 : decide (60000 < l0.length) = true := zT (by omega)
  clear c2
  simp only [Option.some.injEq, Prod.mk.injEq] at H
  obtain ⟨rfl, rfl, rfl, rfl⟩ := H
  go_enter Try.func58, Try.ntmps58
  go_wp2_with (first | ((with_reducible refine gate_dst (N := 4) rfl ?_); (try (refine gate_guard (by rfl) ?_; dsimp only)); refine box_event ?hg (N := 4) ?hd (cs := #[.int .i64 0, .int .i64 0]) (t := 65) ?hr ?_; (case hd => rfl); (case hg => rfl); (case hr => first | (go_simp; done) | (go_simp; rfl)); intro gb1020 hg w3 hbox hb; have n0_ := zA (below_step (by repeat (first | (with_reducible first | exact HB.out | apply zC | apply zB | apply zF) | exact HB.out)) hb); have n1_ := zA (hbox); have n2_ := zA ((by rw [hg]; exact (zL (by repeat (first | (with_reducible first | exact HB.out | apply zC | apply zB | apply zF) | exact HB.out))) : w.heap.size ≤ gb1020)); have n3_ := zA ((by rw [hg]; exact (zL (by repeat (first | (with_reducible first | exact HB.out | apply zC | apply zB | apply zF) | exact HB.out))) : w.heap.size ≤ gb1020)); clear HB; have HB := n0_; have BK1020 := n1_; have GW1020 := n2_; have GE1020 := n3_; clear n0_ n1_ n2_ n3_; clear hb hbox hg) | ((with_reducible refine gate_dst (N := 12) rfl ?_); (try (refine gate_guard (by rfl) ?_; dsimp only)); refine Kd.S_lit k131 _ 131 ?hg (N := 12) ?hd (xs := ([] : List (S131))) (inner := []) (ok := fun _ => True) (okp := fun _ => True) ?hr ?hp (fun _ hk => hk) trivial (Below.refl _ _) (Nat.le_refl _) (by simp) ?_; (case hd => rfl); (case hg => rfl); (case hr => first | (go_simp; done) | (go_simp; rfl)); (case hp => exact (Reps.none _ _)); intro v1022 w4 ho5 hb hg_ hnew_; clear hg_ hnew_; (first | rw [← Ny1021.out] at ho5 | (simp only [Int.reduceToNat] at ho5; rw [← Ny1021.out] at ho5)); have n0_ := zA (Kd.S_lower ho5 (zL (by repeat (first | (with_reducible first | exact HB.out | apply zC | apply zB | apply zF | refine zE ?_ GE1020.out) | exact HB.out)))); have n1_ := zA (blk_below (g := gb1020) (o := .cells #[.int .i64 0, .int .i64 0] 65 (0, 0)) (by (with_reducible repeat (first | refine zG ?_ _ | refine zH ?_ | refine zD ?_ _)); exact BK1020.out) hb); have n2_ := zA (below_step (by repeat (first | (with_reducible first | exact HB.out | apply zC | apply zB | apply zF | refine zE ?_ GE1020.out) | exact HB.out)) hb); clear BK1020; clear HB; have HO1023 := n0_; have BK1020 := n1_; have HB := n2_; clear n0_ n1_ n2_; clear hb ho5; have hcz6_0 : w4.cell? ⟨gb1020, 0, none⟩ = some (.int .i64 0) := (zK BK1020.out 0).trans rfl; have hcz6_1 : w4.cell? ⟨gb1020, 1, none⟩ = some (.int .i64 0) := (zK BK1020.out 1).trans rfl; have hfz6_0 := zJ BK1020.out 0; have hfz6_1 := zJ BK1020.out 1))
  refine bodyPost_ret (results_list (rs := [.tmp 2, .tmp 3, .cell 4 65]) rfl (by simp) (.tmp (.tmp (.cell gb1020 65 #[.int .i64 1, .int .i64 0] (0, 0) _ rfl (by (with_reducible repeat (first | refine zG ?_ _ | refine zH ?_ | refine zD ?_ _)); refine blk_put (cs := #[.int .i64 1, .int .i64 0]) ?_ 1 _ rfl; (with_reducible repeat (first | refine zG ?_ _ | refine zH ?_ | refine zD ?_ _)); refine blk_put (cs := #[.int .i64 0, .int .i64 0]) ?_ 0 _ rfl; (with_reducible repeat (first | refine zG ?_ _ | refine zH ?_ | refine zD ?_ _)); exact BK1020.out) Try.underlying65 rfl (by kernel_rfl) .nil)))) rfl ?_
  exact ⟨_, by first | rfl | (simp [errW_none, errW_some] <;> rfl) | (simp [*, errW_none, errW_some] <;> rfl), by (with_reducible repeat (first | apply yE | apply yF | apply yG)); exact yH (yI (p := ⟨gb1020, 1, none⟩) (yI (p := ⟨gb1020, 0, none⟩) (Kd.S_types HO1023.out BK1020.out (by decide)) (fun _ hk => hk.2) (.int .i64 1)) (fun _ hk => hk.2) (.int .i64 0)) (fun _ hk => trivial), by repeat (first | (with_reducible first | exact HB.out | apply zC | apply zB | apply zF | refine zE ?_ GE1020.out) | exact HB.out)⟩
 ·rw [if_neg c2] at H
  have c2b0 : decide (60000 < (l0.length : Int)) = false := decide_eq_false c2
  have c2b1 : decide (60000 < l0.length) = false := decide_eq_false (by omega)
  clear c2
  have HC7 := zA H
  clear H
  go_enter Try.func58, Try.ntmps58
  go_upto_region 4 with (first | ((with_reducible refine gate_dst (N := 4) rfl ?_); (try (refine gate_guard (by rfl) ?_; dsimp only)); refine box_event ?hg (N := 4) ?hd (cs := #[.int .i64 0, .int .i64 0]) (t := 65) ?hr ?_; (case hd => rfl); (case hg => rfl); (case hr => first | (go_simp; done) | (go_simp; rfl)); intro gb1020 hg w8 hbox hb; have n0_ := zA (below_step (by repeat (first | (with_reducible first | exact HB.out | apply zC | apply zB | apply zF) | exact HB.out)) hb); have n1_ := zA (hbox); have n2_ := zA ((by rw [hg]; exact (zL (by repeat (first | (with_reducible first | exact HB.out | apply zC | apply zB | apply zF) | exact HB.out))) : w.heap.size ≤ gb1020)); have n3_ := zA ((by rw [hg]; exact (zL (by repeat (first | (with_reducible first | exact HB.out | apply zC | apply zB | apply zF) | exact HB.out))) : w.heap.size ≤ gb1020)); clear HB; have HB := n0_; have BK1020 := n1_; have GW1020 := n2_; have GE1020 := n3_; clear n0_ n1_ n2_ n3_; clear hb hbox hg) | ((with_reducible refine gate_dst (N := 12) rfl ?_); (try (refine gate_guard (by rfl) ?_; dsimp only)); refine Kd.S_lit k131 _ 131 ?hg (N := 12) ?hd (xs := ([] : List (S131))) (inner := []) (ok := fun _ => True) (okp := fun _ => True) ?hr ?hp (fun _ hk => hk) trivial (Below.refl _ _) (Nat.le_refl _) (by simp) ?_; (case hd => rfl); (case hg => rfl); (case hr => first | (go_simp; done) | (go_simp; rfl)); (case hp => exact (Reps.none _ _)); intro v1022 w9 ho10 hb hg_ hnew_; clear hg_ hnew_; (first | rw [← Ny1021.out] at ho10 | (simp only [Int.reduceToNat] at ho10; rw [← Ny1021.out] at ho10)); have n0_ := zA (Kd.S_lower ho10 (zL (by repeat (first | (with_reducible first | exact HB.out | apply zC | apply zB | apply zF | refine zE ?_ GE1020.out) | exact HB.out)))); have n1_ := zA (blk_below (g := gb1020) (o := .cells #[.int .i64 0, .int .i64 0] 65 (0, 0)) (by (with_reducible repeat (first | refine zG ?_ _ | refine zH ?_ | refine zD ?_ _)); exact BK1020.out) hb); have n2_ := zA (below_step (by repeat (first | (with_reducible first | exact HB.out | apply zC | apply zB | apply zF | refine zE ?_ GE1020.out) | exact HB.out)) hb); clear BK1020; clear HB; have HO1023 := n0_; have BK1020 := n1_; have HB := n2_; clear n0_ n1_ n2_; clear hb ho10))
  (try simp only [Act.put, List.setIfInBounds_toArray, List.set_cons_zero, List.set_cons_succ])
  go_cut [31] (fun v31 wc => ∃ (kq : Nat) (x31_6 : Bool), v31 = .bool x31_6 ∧ Aside0 (spec_SegsSoFar.j0 kq l0 y1021 x31_6 = some (r1, r2, r3, r4)) ∧ Aside0 (kq ≤ k) ∧ Aside0 (Kd.S k131 131 wc w.heap.size (fun _ => True) v1022 y1021) ∧ Aside0 (wc.heap[gb1020]? = some (.cells #[.int .i64 0, .int .i64 0] 65 (0, 0))) ∧ Aside0 (Below w.heap.size w wc))
  case first =>
   have H := HC7.out
   clear HC7
   by_cases c11 : (l0.length : Int) = 0
   ·rw [if_pos c11] at H
    have c11b0 : ((l0.length : Int) == 0) = true := beq_iff_eq.mpr c11
    have c11b1 : ((l0.length : Int) != 0) = false := bne_eq_false_iff_eq.mpr c11
    clear c11
    (first | rw [c11b0] | (simp only [i64_w, i32_w]; rw [c11b0]) | skip)
    have H' := zA H
    clear H
    go_wp2
    go_meet
    case rel => exact ⟨_, (true), (by first | rfl | (simp; done) | (simp [*]; done)), H', ⟨by first | omega | exact Nat.le_refl _⟩, ⟨by (with_reducible repeat (first | apply yE | apply yF | apply yG)); exact HO1023.out⟩, ⟨by (with_reducible repeat (first | refine zG ?_ _ | refine zH ?_ | refine zD ?_ _)); exact BK1020.out⟩, ⟨by repeat (first | (with_reducible first | exact HB.out | apply zC | apply zB | apply zF | refine zE ?_ GE1020.out) | exact HB.out)⟩⟩
   ·rw [if_neg c11] at H
    have c11b0 : ((l0.length : Int) == 0) = false := beq_eq_false_iff_ne.mpr c11
    have c11b1 : ((l0.length : Int) != 0) = true := bne_iff_ne.mpr c11
    have c11b2 : ¬ (l0 = []) := fun h_ => c11 (by rw [h_]; rfl)
    (first | rw [c11b0] | (simp only [i64_w, i32_w]; rw [c11b0]) | skip)
    by_cases c12 : (l0.length : Int) = 1
    ·rw [if_pos c12] at H
     have c12b0 : ((l0.length : Int) == 1) = true := beq_iff_eq.mpr c12
     have c12b1 : ((l0.length : Int) != 1) = false := bne_eq_false_iff_eq.mpr c12
     clear c12
     by_cases c13 : 0 < (l0.length : Int)
     ·rw [if_pos c13] at H
      have c13b0 : decide (0 < (l0.length : Int)) = true := zT c13
      have c13b1 : decide (0 < l0.length) = true := zT (by omega)
      clear c13
      have H' := zA H
      clear H
      have p1024 : 0 ≤ (0 : Int) := (by omega)
      have q1024 : 0 < (l0.length : Int) := zI (by first | (with_reducible assumption) | assumption)
      obtain ⟨ad1024, e1024, hx1024_0⟩ := Kd.at_int HR0.out 0 p1024 q1024
      cases e1024
      have qi1024 : (0 < l0.length) = True := eq_true (by omega)
      (try rw [show ((0 : Int)).toNat = 0 from rfl] at hx1024_0)
      (try rw [Addr.add_zero'] at hx1024_0)
      replace hx1024_0 := (HB.out.cell (World.block_lt_of_cell? w _ hx1024_0)).trans hx1024_0
      replace p1024 := eq_true p1024
      replace q1024 := eq_true q1024
      go_wp2
      go_meet
      case rel => exact ⟨_, (((rd l0 0) == 84)), (by first | rfl | (simp; done) | (simp [*]; done)), H', ⟨by first | omega | exact Nat.le_refl _⟩, ⟨by (with_reducible repeat (first | apply yE | apply yF | apply yG)); exact HO1023.out⟩, ⟨by (with_reducible repeat (first | refine zG ?_ _ | refine zH ?_ | refine zD ?_ _)); exact BK1020.out⟩, ⟨by repeat (first | (with_reducible first | exact HB.out | apply zC | apply zB | apply zF | refine zE ?_ GE1020.out) | exact HB.out)⟩⟩
     ·rw [if_neg c13] at H
      exact absurd H (by simp)
    ·rw [if_neg c12] at H
     have c12b0 : ((l0.length : Int) == 1) = false := beq_eq_false_iff_ne.mpr c12
     have c12b1 : ((l0.length : Int) != 1) = true := bne_iff_ne.mpr c12
     have H' := zA H
     clear H
     go_wp2
     go_meet
     case rel => exact ⟨_, (false), (by first | rfl | (simp; done) | (simp [*]; done)), H', ⟨by first | omega | exact Nat.le_refl _⟩, ⟨by (with_reducible repeat (first | apply yE | apply yF | apply yG)); exact HO1023.out⟩, ⟨by (with_reducible repeat (first | refine zG ?_ _ | refine zH ?_ | refine zD ?_ _)); exact BK1020.out⟩, ⟨by repeat (first | (with_reducible first | exact HB.out | apply zC | apply zB | apply zF | refine zE ?_ GE1020.out) | exact HB.out)⟩⟩
  case rest =>
   clear HC7
   try clear c1
   try clear p1
   try clear q1
   try clear hx1
   try clear qi1
   try clear c2
   try clear c2b0
   try clear c2b1
   try clear p2
   try clear c5
   try clear p10
   try clear q10
   try clear hx10
   try clear qi10
   try clear c11
   try clear c11b0
   try clear c11b1
   try clear c11b2
   try clear c12
   try clear c12b0
   try clear c12b1
   try clear c13
   try clear c13b0
   try clear c13b1
   try clear hcz6_0
   try clear hcz6_1
   try clear hfz6_0
   try clear hfz6_1
   try clear hx1024_0
   try clear p1024
   try clear q1024
   obtain ⟨kq, x31_6, rfl, HA, HJ6, HO_5, BK1020, HB⟩ := hcut
   cases kq with
   | zero => exact absurd HA.out (by simp [spec_SegsSoFar.j0])
   | succ kj6 =>
    have H := HA.out
    clear HA
    simp only [spec_SegsSoFar.j0] at H
    by_cases c14 : x31_6 = true
    ·subst c14
     have H1 : (some (y1021, false, 0, 0)) = some (r1, r2, r3, r4) := by rw [if_pos rfl] at H; exact H
     clear H
     have H := H1
     clear H1
     simp only [Option.some.injEq, Prod.mk.injEq] at H
     obtain ⟨rfl, rfl, rfl, rfl⟩ := H
     have hcz15_0 : wc.cell? ⟨gb1020, 0, none⟩ = some (.int .i64 0) := (zK BK1020.out 0).trans rfl
     have hcz15_1 : wc.cell? ⟨gb1020, 1, none⟩ = some (.int .i64 0) := (zK BK1020.out 1).trans rfl
     have hfz15_0 := zJ BK1020.out 0
     have hfz15_1 := zJ BK1020.out 1
     go_wp2
     refine bodyPost_ret (results_list (rs := [.tmp 2, .tmp 3, .cell 4 65]) rfl (by simp) (.tmp (.tmp (.cell gb1020 65 #[.int .i64 0, .int .i64 0] (0, 0) _ rfl (by (with_reducible repeat (first | refine zG ?_ _ | refine zH ?_ | refine zD ?_ _)); refine blk_put (cs := #[.int .i64 0, .int .i64 0]) ?_ 1 _ rfl; (with_reducible repeat (first | refine zG ?_ _ | refine zH ?_ | refine zD ?_ _)); refine blk_put (cs := #[.int .i64 0, .int .i64 0]) ?_ 0 _ rfl; (with_reducible repeat (first | refine zG ?_ _ | refine zH ?_ | refine zD ?_ _)); exact BK1020.out) Try.underlying65 rfl (by kernel_rfl) .nil)))) rfl ?_
     exact ⟨_, by first | rfl | (simp [errW_none, errW_some] <;> rfl) | (simp [*, errW_none, errW_some] <;> rfl), by (with_reducible repeat (first | apply yE | apply yF | apply yG)); exact yH (yI (p := ⟨gb1020, 1, none⟩) (yI (p := ⟨gb1020, 0, none⟩) (Kd.S_types HO_5.out BK1020.out (by decide)) (fun _ hk => hk.2) (.int .i64 0)) (fun _ hk => hk.2) (.int .i64 0)) (fun _ hk => trivial), by repeat (first | (with_reducible first | exact HB.out | apply zC | apply zB | apply zF | refine zE ?_ GE1020.out) | exact HB.out)⟩
    ·replace c14 := Bool.eq_false_iff.mpr c14
     subst c14
     have H1 : (if (l0.length : Int) < 2 then (spec_SegsSoFar.j1 kj6 l0 y1021 true) else (if 0 < (l0.length : Int) then (if (rd l0 0) = 84 then (if 1 < (l0.length : Int) then (spec_SegsSoFar.j1 kj6 l0 y1021 ((rd l0 1) != 83)) else (none)) else (spec_SegsSoFar.j1 kj6 l0 y1021 true)) else (none))) = some (r1, r2, r3, r4) := by rw [if_neg (show ¬ (false = true) by decide)] at H; exact H
     clear H
     have H := H1
     clear H1
     have HC16 := zA H
     clear H
     go_upto_region 6 with (fail)
     go_cut [48] (fun v48 wc => ∃ (kq : Nat) (x48_15 : Bool), v48 = .bool x48_15 ∧ Aside0 (spec_SegsSoFar.j1 kq l0 y1021 x48_15 = some (r1, r2, r3, r4)) ∧ Aside0 (kq ≤ kj6) ∧ Aside0 (Kd.S k131 131 wc w.heap.size (fun _ => True) v1022 y1021) ∧ Aside0 (wc.heap[gb1020]? = some (.cells #[.int .i64 0, .int .i64 0] 65 (0, 0))) ∧ Aside0 (Below w.heap.size w wc))
     case first =>
      have H := HC16.out
      clear HC16
      by_cases c17 : (l0.length : Int) < 2
      ·rw [if_pos c17] at H
       have c17b0 : decide ((l0.length : Int) < 2) = true := zT c17
       have c17b1 : decide (l0.length < 2) = true := zT (by omega)
       clear c17
       (first | rw [c17b0] | (simp only [i64_w, i32_w]; rw [c17b0]) | skip)
       have H' := zA H
       clear H
       go_wp2
       go_meet
       case rel => exact ⟨_, (true), (by first | rfl | (simp; done) | (simp [*]; done)), H', ⟨by have := HJ6.out; first | omega | exact Nat.le_refl _⟩, ⟨by (with_reducible repeat (first | apply yE | apply yF | apply yG)); exact HO_5.out⟩, ⟨by (with_reducible repeat (first | refine zG ?_ _ | refine zH ?_ | refine zD ?_ _)); exact BK1020.out⟩, ⟨by repeat (first | (with_reducible first | exact HB.out | apply zC | apply zB | apply zF | refine zE ?_ GE1020.out) | exact HB.out)⟩⟩
      ·rw [if_neg c17] at H
       have c17b0 : decide ((l0.length : Int) < 2) = false := decide_eq_false c17
       have c17b1 : decide (l0.length < 2) = false := decide_eq_false (by omega)
       clear c17
       (first | rw [c17b0] | (simp only [i64_w, i32_w]; rw [c17b0]) | skip)
       by_cases c18 : 0 < (l0.length : Int)
       ·rw [if_pos c18] at H
        have c18b0 : decide (0 < (l0.length : Int)) = true := zT c18
        have c18b1 : decide (0 < l0.length) = true := zT (by omega)
        clear c18
        by_cases c19 : (rd l0 0) = 84
        ·rw [if_pos c19] at H
         have c19b0 : ((rd l0 0) == 84) = true := beq_iff_eq.mpr c19
         have c19b1 : ((rd l0 0) != 84) = false := bne_eq_false_iff_eq.mpr c19
         clear c19
         by_cases c20 : 1 < (l0.length : Int)
         ·rw [if_pos c20] at H
          have c20b0 : decide (1 < (l0.length : Int)) = true := zT c20
          have c20b1 : decide (1 < l0.length) = true := zT (by omega)
          clear c20
          have H' := zA H
          clear H
          have p1025 : 0 ≤ (0 : Int) := (by omega)
          have q1025 : 0 < (l0.length : Int) := zI (by first | (with_reducible assumption) | assumption)
          obtain ⟨ad1025, e1025, hx1025_0⟩ := Kd.at_int HR0.out 0 p1025 q1025
          cases e1025
          have qi1025 : (0 < l0.length) = True := eq_true (by omega)
          (try rw [show ((0 : Int)).toNat = 0 from rfl] at hx1025_0)
          (try rw [Addr.add_zero'] at hx1025_0)
          replace hx1025_0 := (HB.out.cell (World.block_lt_of_cell? w _ hx1025_0)).trans hx1025_0
          replace p1025 := eq_true p1025
          replace q1025 := eq_true q1025
          have p1026 : 0 ≤ (1 : Int) := (by omega)
          have q1026 : 1 < (l0.length : Int) := zI (by first | (with_reducible assumption) | assumption)
          obtain ⟨ad1026, e1026, hx1026_0⟩ := Kd.at_int HR0.out 1 p1026 q1026
          obtain rfl : ad1025 = ad1026 := (by injection e1026)
          (try simp only [show (1 : Int).toNat = 1 from rfl, Nat.reduceMul, Nat.reduceEqDiff, Go.Addr.add, ↓reduceIte] at hx1026_0)
          have qi1026 : (1 < l0.length) = True := eq_true (by omega)
          (try rw [show ((1 : Int)).toNat = 1 from rfl] at hx1026_0)
          replace hx1026_0 := (HB.out.cell (World.block_lt_of_cell? w _ hx1026_0)).trans hx1026_0
          replace p1026 := eq_true p1026
          replace q1026 := eq_true q1026
          go_wp2
          go_meet
          case rel => exact ⟨_, (((rd l0 1) != 83)), (by first | rfl | (simp; done) | (simp [*]; done)), H', ⟨by have := HJ6.out; first | omega | exact Nat.le_refl _⟩, ⟨by (with_reducible repeat (first | apply yE | apply yF | apply yG)); exact HO_5.out⟩, ⟨by (with_reducible repeat (first | refine zG ?_ _ | refine zH ?_ | refine zD ?_ _)); exact BK1020.out⟩, ⟨by repeat (first | (with_reducible first | exact HB.out | apply zC | apply zB | apply zF | refine zE ?_ GE1020.out) | exact HB.out)⟩⟩
         ·rw [if_neg c20] at H
          exact absurd H (by simp)
        ·rw [if_neg c19] at H
         have c19b0 : ((rd l0 0) == 84) = false := beq_eq_false_iff_ne.mpr c19
         have c19b1 : ((rd l0 0) != 84) = true := bne_iff_ne.mpr c19
         have H' := zA H
         clear H
         have p1025 : 0 ≤ (0 : Int) := (by omega)
         have q1025 : 0 < (l0.length : Int) := zI (by first | (with_reducible assumption) | assumption)
         obtain ⟨ad1025, e1025, hx1025_0⟩ := Kd.at_int HR0.out 0 p1025 q1025
         cases e1025
         have qi1025 : (0 < l0.length) = True := eq_true (by omega)
         (try rw [show ((0 : Int)).toNat = 0 from rfl] at hx1025_0)
         (try rw [Addr.add_zero'] at hx1025_0)
         replace hx1025_0 := (HB.out.cell (World.block_lt_of_cell? w _ hx1025_0)).trans hx1025_0
         replace p1025 := eq_true p1025
         replace q1025 := eq_true q1025
         go_wp2
         go_meet
         case rel => exact ⟨_, (true), (by first | rfl | (simp; done) | (simp [*]; done)), H', ⟨by have := HJ6.out; first | omega | exact Nat.le_refl _⟩, ⟨by (with_reducible repeat (first | apply yE | apply yF | apply yG)); exact HO_5.out⟩, ⟨by (with_reducible repeat (first | refine zG ?_ _ | refine zH ?_ | refine zD ?_ _)); exact BK1020.out⟩, ⟨by repeat (first | (with_reducible first | exact HB.out | apply zC | apply zB | apply zF | refine zE ?_ GE1020.out) | exact HB.out)⟩⟩
       ·rw [if_neg c18] at H
        exact absurd H (by simp)
     case rest =>
      clear HC16
      try clear c1
      try clear p1
      try clear q1
      try clear hx1
      try clear qi1
      try clear c2
      try clear c2b0
      try clear c2b1
      try clear p2
      try clear c5
      try clear p10
      try clear q10
      try clear hx10
      try clear qi10
      try clear c11
      try clear c11b0
      try clear c11b1
      try clear c11b2
      try clear c12
      try clear c12b0
      try clear c12b1
      try clear c13
      try clear c13b0
      try clear c13b1
      try clear c14
      try clear c17
      try clear c17b0
      try clear c17b1
      try clear c18
      try clear c18b0
      try clear c18b1
      try clear c19
      try clear c19b0
      try clear c19b1
      try clear c20
      try clear c20b0
      try clear c20b1
      try clear hcz15_0
      try clear hcz15_1
      try clear hcz6_0
      try clear hcz6_1
      try clear hfz15_0
      try clear hfz15_1
      try clear hfz6_0
      try clear hfz6_1
      try clear hx1024_0
      try clear hx1025_0
      try clear hx1026_0
      try clear p1
      try clear p10
      try clear p1024
      try clear p1025
      try clear p1026
      try clear p2
      try clear q1
      try clear q10
      try clear q1024
      try clear q1025
      try clear q1026
      obtain ⟨kq, x48_15, rfl, HA, HJ15, HO_5, BK1020, HB⟩ := hcut
      cases kq with
      | zero => exact absurd HA.out (by simp [spec_SegsSoFar.j1])
      | succ kj15 =>
       have H := HA.out
       clear HA
       simp only [spec_SegsSoFar.j1] at H
       by_cases c21 : x48_15 = true
       ·subst c21
        have H1 : (some (y1021, false, 2, 0)) = some (r1, r2, r3, r4) := by rw [if_pos rfl] at H; exact H
        clear H
        have H := H1
        clear H1
        simp only [Option.some.injEq, Prod.mk.injEq] at H
        obtain ⟨rfl, rfl, rfl, rfl⟩ := H
        have hcz22_0 : wc.cell? ⟨gb1020, 0, none⟩ = some (.int .i64 0) := (zK BK1020.out 0).trans rfl
        have hcz22_1 : wc.cell? ⟨gb1020, 1, none⟩ = some (.int .i64 0) := (zK BK1020.out 1).trans rfl
        have hfz22_0 := zJ BK1020.out 0
        have hfz22_1 := zJ BK1020.out 1
        go_wp2
        refine bodyPost_ret (results_list (rs := [.tmp 2, .tmp 3, .cell 4 65]) rfl (by simp) (.tmp (.tmp (.cell gb1020 65 #[.int .i64 2, .int .i64 0] (0, 0) _ rfl (by (with_reducible repeat (first | refine zG ?_ _ | refine zH ?_ | refine zD ?_ _)); refine blk_put (cs := #[.int .i64 2, .int .i64 0]) ?_ 1 _ rfl; (with_reducible repeat (first | refine zG ?_ _ | refine zH ?_ | refine zD ?_ _)); refine blk_put (cs := #[.int .i64 0, .int .i64 0]) ?_ 0 _ rfl; (with_reducible repeat (first | refine zG ?_ _ | refine zH ?_ | refine zD ?_ _)); exact BK1020.out) Try.underlying65 rfl (by kernel_rfl) .nil)))) rfl ?_
        exact ⟨_, by first | rfl | (simp [errW_none, errW_some] <;> rfl) | (simp [*, errW_none, errW_some] <;> rfl), by (with_reducible repeat (first | apply yE | apply yF | apply yG)); exact yH (yI (p := ⟨gb1020, 1, none⟩) (yI (p := ⟨gb1020, 0, none⟩) (Kd.S_types HO_5.out BK1020.out (by decide)) (fun _ hk => hk.2) (.int .i64 2)) (fun _ hk => hk.2) (.int .i64 0)) (fun _ hk => trivial), by repeat (first | (with_reducible first | exact HB.out | apply zC | apply zB | apply zF | refine zE ?_ GE1020.out) | exact HB.out)⟩
       ·replace c21 := Bool.eq_false_iff.mpr c21
        subst c21
        have H1 : (spec_SegsSoFar.l0 kj15 l0 y1021 2 0) = some (r1, r2, r3, r4) := by rw [if_neg (show ¬ (false = true) by decide)] at H; exact H
        clear H
        have H := H1
        clear H1
        have H' := zA H
        clear H
        go_wp2
        go_loopg [5, 6, 7] kj15 (fun kq v5 v6 v7 w' => ∃ (x5_3 : List (S131)) (x6_3 : Int) (x7_3 : Int) (x1021000_3 : Int) (x1021001_3 : Int), v6 = .int .i64 x6_3 ∧ v7 = .int .i64 x7_3 ∧ Aside0 (spec_SegsSoFar.l0 kq l0 x5_3 x6_3 x7_3 = some (r1, r2, r3, r4)) ∧ Aside0 (kq ≤ kj15) ∧ Aside0 (Kd.S k131 131 w' w.heap.size (fun _ => True) v5 x5_3) ∧ Aside0 (w'.heap[gb1020]? = some (.cells #[.int .i64 x1021000_3, .int .i64 x1021001_3] 65 (0, 0))) ∧ Aside0 (Below w.heap.size w w'))
        case atStart => exact ⟨(y1021), (2), (0), (0), (0), (by first | rfl | (simp; done) | (simp [*]; done)), (by first | rfl | (simp; done) | (simp [*]; done)), H', ⟨Nat.le_refl _⟩, ⟨by (with_reducible repeat (first | apply yE | apply yF | apply yG)); exact HO_5.out⟩, ⟨by (with_reducible repeat (first | refine zG ?_ _ | refine zH ?_ | refine zD ?_ _)); exact BK1020.out⟩, ⟨by repeat (first | (with_reducible first | exact HB.out | apply zC | apply zB | apply zF | refine zE ?_ GE1020.out) | exact HB.out)⟩⟩
        case round =>
         clear H'
         try clear c1
         try clear p1
         try clear q1
         try clear hx1
         try clear qi1
         try clear c2
         try clear c2b0
         try clear c2b1
         try clear p2
         try clear c5
         try clear p10
         try clear q10
         try clear hx10
         try clear qi10
         try clear c11
         try clear c11b0
         try clear c11b1
         try clear c11b2
         try clear c12
         try clear c12b0
         try clear c12b1
         try clear c13
         try clear c13b0
         try clear c13b1
         try clear c14
         try clear c17
         try clear c17b0
         try clear c17b1
         try clear c18
         try clear c18b0
         try clear c18b1
         try clear c19
         try clear c19b0
         try clear c19b1
         try clear c20
         try clear c20b0
         try clear c20b1
         try clear c21
         try clear hcz15_0
         try clear hcz15_1
         try clear hcz22_0
         try clear hcz22_1
         try clear hcz6_0
         try clear hcz6_1
         try clear hfz15_0
         try clear hfz15_1
         try clear hfz22_0
         try clear hfz22_1
         try clear hfz6_0
         try clear hfz6_1
         try clear hx1024_0
         try clear hx1025_0
         try clear hx1026_0
         try clear p1
         try clear p10
         try clear p1024
         try clear p1025
         try clear p1026
         try clear p2
         try clear q1
         try clear q10
         try clear q1024
         try clear q1025
         try clear q1026
         obtain ⟨x5_3, x6_3, x7_3, x1021000_3, x1021001_3, rfl, rfl, HA, HK3, HO_5, BK1020, HB⟩ := hrel
         cases gk with
         | zero => exact absurd HA.out (by simp [spec_SegsSoFar.l0])
         | succ k3 =>
          have H := HA.out
          clear HA
          simp only [spec_SegsSoFar.l0] at H
          replace H := Option.bind_eq_some_iff.mp H
          obtain ⟨⟨t1027, t1028, t1031, t1032, t1033, t1034⟩, A230, H⟩ := H
          replace H : (if t1032 = 3 then (some (x5_3, false, 0, 0)) else (if t1032 = 0 then (if t1034 = true then (spec_SegsSoFar.j3 k3 l0 x5_3 t1031 t1034 (decide (t1031 < (l0.length : Int))) t1027 t1028) else (spec_SegsSoFar.j3 k3 l0 x5_3 t1031 t1034 false t1027 t1028)) else (some (x5_3, false, t1032, t1033)))) = some (r1, r2, r3, r4) := H
          have A23 := zA A230
          clear A230
          by_cases c24 : t1032 = 3
          ·rw [if_pos c24] at H
           have c24b0 : (t1032 == 3) = true := beq_iff_eq.mpr c24
           have c24b1 : (t1032 != 3) = false := bne_eq_false_iff_eq.mpr c24
           clear c24
           simp only [Option.some.injEq, Prod.mk.injEq] at H
           obtain ⟨rfl, rfl, rfl, rfl⟩ := H
           obtain ⟨Ao25, co25, eo25⟩ := Kd.S_slice HO_5.out
           subst eo25
           go_wp2_with (first | ((with_reducible refine gate_callee (f := 131) rfl ?_); refine goesL_ (some 58) rfl rfl Try.func131 (by kernel_rfl) rfl #[.slice A0 l0.length c0, .int .i64 x6_3, .int .i64 x7_3, .bool ((x5_3.length : Int) == 300)] rfl (by (try simp only [zU, zV, zW]); first | done | rfl | (simp only [zR, zQ]; rfl)) ?_; (with_reducible refine (spec_l02Next.calls k3 _ _ l0 x6_3 x7_3 ((x5_3.length : Int) == 300) t1027 t1028 t1031 t1032 t1033 t1034 _ ?side1 ?side2 A23.out).mono ?_); (case side1 => repeat (first | exact (Kd.C_below HR0.out HB.out) | (with_reducible refine yN ?_ _) | (with_reducible refine yL ?_ _) | (with_reducible refine yM ?_))); (case side2 => exact HC0.out); rintro e w26 ⟨v1029, rfl, ho0, hb⟩; refine ⟨_, rfl, ?_⟩; have n0_ := zA (Kd.S_elder' (by (with_reducible repeat (first | apply yE | apply yF | apply yG)); exact HO_5.out) (Kd.R_base ho0) hb); have n1_ := zA (Kd.R_lower ho0 (zL (by repeat (first | (with_reducible first | exact HB.out | apply zC | apply zB | apply zF | refine zE ?_ GE1020.out) | exact HB.out)))); have n2_ := zA (blk_below (g := gb1020) (o := .cells #[.int .i64 x1021000_3, .int .i64 x1021001_3] 65 (0, 0)) (by (with_reducible repeat (first | refine zG ?_ _ | refine zH ?_ | refine zD ?_ _)); exact BK1020.out) hb); have n3_ := zA (below_step (by repeat (first | (with_reducible first | exact HB.out | apply zC | apply zB | apply zF | refine zE ?_ GE1020.out) | exact HB.out)) hb); clear HO_5; clear BK1020; clear HB; have HO_5 := n0_; have HO1030 := n1_; have BK1020 := n2_; have HB := n3_; clear n0_ n1_ n2_ n3_; (try clear hb); (try clear hb2); (try clear hk); (try clear hi); (try clear ho0)) | ((with_reducible refine gate_dst (N := 8) rfl ?_); (try (refine gate_guard (by rfl) ?_; dsimp only)); refine box_event ?hg (N := 8) ?hd (cs := #[.int .i64 0, .slice none 0 0]) (t := 131) ?hr ?_; (case hd => rfl); (case hg => rfl); (case hr => first | (go_simp; done) | (go_simp; rfl)); intro gb1035 hg w27 hbox hb; have n0_ := zA (Kd.S_below (Kd.S_elderB (by (with_reducible repeat (first | apply yE | apply yF | apply yG)); exact HO_5.out) gb1035 (Nat.le_of_eq hg.symm)) hb); have n1_ := zA (Kd.R_below (by (with_reducible repeat (first | apply zN | apply zM | apply zO)); exact HO1030.out) hb); have n2_ := zA (blk_below (g := gb1020) (o := .cells #[.int .i64 x1021000_3, .int .i64 x1021001_3] 65 (0, 0)) (by (with_reducible repeat (first | refine zG ?_ _ | refine zH ?_ | refine zD ?_ _)); exact BK1020.out) hb); have n3_ := zA (below_step (by repeat (first | (with_reducible first | exact HB.out | apply zC | apply zB | apply zF | refine zE ?_ GE1020.out) | exact HB.out)) hb); have n4_ := zA (hbox); have n5_ := zA ((by rw [hg]; exact (zL (by repeat (first | (with_reducible first | exact HB.out | apply zC | apply zB | apply zF | refine zE ?_ GE1020.out) | exact HB.out))) : w.heap.size ≤ gb1035)); have n6_ := zA ((by rw [hg]; exact (zL (by repeat (first | (with_reducible first | exact HB.out | apply zC | apply zB | apply zF | refine zE ?_ GE1020.out) | exact HB.out))) : w.heap.size ≤ gb1035)); have n7_ := zA ((by rw [hg]; exact Nat.ne_of_lt (blk_lt (g := gb1020) (o := .cells #[.int .i64 x1021000_3, .int .i64 x1021001_3] 65 (0, 0)) (by (with_reducible repeat (first | refine zG ?_ _ | refine zH ?_ | refine zD ?_ _)); exact BK1020.out)) : gb1020 ≠ gb1035)); have n8_ := zA ((by rw [hg]; exact Nat.ne_of_gt (blk_lt (g := gb1020) (o := .cells #[.int .i64 x1021000_3, .int .i64 x1021001_3] 65 (0, 0)) (by (with_reducible repeat (first | refine zG ?_ _ | refine zH ?_ | refine zD ?_ _)); exact BK1020.out)) : gb1035 ≠ gb1020)); clear HO_5; clear HO1030; clear BK1020; clear HB; have HO_5 := n0_; have HO1030 := n1_; have BK1020 := n2_; have HB := n3_; have BK1035 := n4_; have GW1035 := n5_; have GE1035 := n6_; have NB1020_1035 := n7_; have NB1035_1020 := n8_; clear n0_ n1_ n2_ n3_ n4_ n5_ n6_ n7_ n8_; clear hb hbox hg) | ((with_reducible refine gate_dst (N := 10) rfl ?_); (try (refine gate_guard (by rfl) ?_; dsimp only)); refine box_event ?hg (N := 10) ?hd (cs := #[.int .i64 0, .int .i64 0]) (t := 65) ?hr ?_; (case hd => rfl); (case hg => rfl); (case hr => first | (go_simp; done) | (go_simp; rfl)); intro gb1036 hg w28 hbox hb; have n0_ := zA (Kd.S_below (by (with_reducible repeat (first | apply yE | apply yF | apply yG)); exact HO_5.out) hb); have n1_ := zA (Kd.R_below (by (with_reducible repeat (first | apply zN | apply zM | apply zO)); exact HO1030.out) hb); have n2_ := zA (blk_below (g := gb1020) (o := .cells #[.int .i64 x1021000_3, .int .i64 x1021001_3] 65 (0, 0)) (by (with_reducible repeat (first | refine zG ?_ _ | refine zH ?_ | refine zD ?_ _)); exact BK1020.out) hb); have n3_ := zA (blk_below (g := gb1035) (o := .cells #[.int .i64 0, .slice none 0 0] 131 (0, 0)) (by (with_reducible repeat (first | refine zG ?_ _ | refine zH ?_ | refine zD ?_ _)); exact BK1035.out) hb); have n4_ := zA (below_step (by repeat (first | (with_reducible first | exact HB.out | apply zC | apply zB | apply zF | refine zE ?_ GE1020.out | refine zE ?_ GE1035.out) | exact HB.out)) hb); have n5_ := zA (hbox); have n6_ := zA ((by rw [hg]; exact (zL (by repeat (first | (with_reducible first | exact HB.out | apply zC | apply zB | apply zF | refine zE ?_ GE1020.out | refine zE ?_ GE1035.out) | exact HB.out))) : w.heap.size ≤ gb1036)); have n7_ := zA ((by rw [hg]; exact (zL (by repeat (first | (with_reducible first | exact HB.out | apply zC | apply zB | apply zF | refine zE ?_ GE1020.out | refine zE ?_ GE1035.out) | exact HB.out))) : w.heap.size ≤ gb1036)); have n8_ := zA ((by rw [hg]; exact Nat.ne_of_lt (blk_lt (g := gb1020) (o := .cells #[.int .i64 x1021000_3, .int .i64 x1021001_3] 65 (0, 0)) (by (with_reducible repeat (first | refine zG ?_ _ | refine zH ?_ | refine zD ?_ _)); exact BK1020.out)) : gb1020 ≠ gb1036)); have n9_ := zA ((by rw [hg]; exact Nat.ne_of_gt (blk_lt (g := gb1020) (o := .cells #[.int .i64 x1021000_3, .int .i64 x1021001_3] 65 (0, 0)) (by (with_reducible repeat (first | refine zG ?_ _ | refine zH ?_ | refine zD ?_ _)); exact BK1020.out)) : gb1036 ≠ gb1020)); have n10_ := zA ((by rw [hg]; exact Nat.ne_of_lt (blk_lt (g := gb1035) (o := .cells #[.int .i64 0, .slice none 0 0] 131 (0, 0)) (by (with_reducible repeat (first | refine zG ?_ _ | refine zH ?_ | refine zD ?_ _)); exact BK1035.out)) : gb1035 ≠ gb1036)); have n11_ := zA ((by rw [hg]; exact Nat.ne_of_gt (blk_lt (g := gb1035) (o := .cells #[.int .i64 0, .slice none 0 0] 131 (0, 0)) (by (with_reducible repeat (first | refine zG ?_ _ | refine zH ?_ | refine zD ?_ _)); exact BK1035.out)) : gb1036 ≠ gb1035)); clear HO_5; clear HO1030; clear BK1020; clear BK1035; clear HB; have HO_5 := n0_; have HO1030 := n1_; have BK1020 := n2_; have BK1035 := n3_; have HB := n4_; have BK1036 := n5_; have GW1036 := n6_; have GE1036 := n7_; have NB1020_1036 := n8_; have NB1036_1020 := n9_; have NB1035_1036 := n10_; have NB1036_1035 := n11_; clear n0_ n1_ n2_ n3_ n4_ n5_ n6_ n7_ n8_ n9_ n10_ n11_; clear hb hbox hg; have hnb29 := NB1035_1020.out; have hnc29 := NB1020_1035.out; have hnb30 := NB1035_1036.out; have hnc30 := NB1036_1035.out; have hcz31_0 : w28.cell? ⟨gb1035, 0, none⟩ = some (.int .i64 0) := (zK BK1035.out 0).trans rfl; have hcz31_1 : w28.cell? ⟨gb1035, 1, none⟩ = some (.slice none 0 0) := (zK BK1035.out 1).trans rfl; have hfz31_0 := zJ BK1035.out 0; have hfz31_1 := zJ BK1035.out 1; obtain ⟨Ao32, co32, eo32⟩ := Kd.R_slice HO1030.out; subst eo32; have hnb33 := NB1036_1020.out; have hnc33 := NB1020_1036.out; have hcz34_0 : w28.cell? ⟨gb1036, 0, none⟩ = some (.int .i64 0) := (zK BK1036.out 0).trans rfl; have hcz34_1 : w28.cell? ⟨gb1036, 1, none⟩ = some (.int .i64 0) := (zK BK1036.out 1).trans rfl; have hfz34_0 := zJ BK1036.out 0; have hfz34_1 := zJ BK1036.out 1; have hcz35_0 : w28.cell? ⟨gb1020, 0, none⟩ = some (.int .i64 x1021000_3) := (zK BK1020.out 0).trans rfl; have hcz35_1 : w28.cell? ⟨gb1020, 1, none⟩ = some (.int .i64 x1021001_3) := (zK BK1020.out 1).trans rfl; have hfz35_0 := zJ BK1020.out 0; have hfz35_1 := zJ BK1020.out 1))
           refine bodyPost_ret (results_list (rs := [.tmp 2, .tmp 3, .cell 4 65]) rfl (by simp) (.tmp (.tmp (.cell gb1020 65 #[.int .i64 0, .int .i64 0] (0, 0) _ rfl (by (with_reducible repeat (first | refine zG ?_ _ | refine zH ?_ | refine zD ?_ _)); refine blk_put (cs := #[.int .i64 0, .int .i64 x1021001_3]) ?_ 1 _ rfl; (with_reducible repeat (first | refine zG ?_ _ | refine zH ?_ | refine zD ?_ _)); refine blk_put (cs := #[.int .i64 x1021000_3, .int .i64 x1021001_3]) ?_ 0 _ rfl; (with_reducible repeat (first | refine zG ?_ _ | refine zH ?_ | refine zD ?_ _)); refine blk_far ?_ NB1020_1036.out _; (with_reducible repeat (first | refine zG ?_ _ | refine zH ?_ | refine zD ?_ _)); refine blk_far ?_ NB1020_1036.out _; (with_reducible repeat (first | refine zG ?_ _ | refine zH ?_ | refine zD ?_ _)); refine blk_far ?_ NB1020_1035.out _; (with_reducible repeat (first | refine zG ?_ _ | refine zH ?_ | refine zD ?_ _)); refine blk_far ?_ NB1020_1035.out _; (with_reducible repeat (first | refine zG ?_ _ | refine zH ?_ | refine zD ?_ _)); exact BK1020.out) Try.underlying65 rfl (by kernel_rfl) .nil)))) rfl ?_
           exact ⟨_, by first | rfl | (simp [errW_none, errW_some] <;> rfl) | (simp [*, errW_none, errW_some] <;> rfl), by (with_reducible repeat (first | apply yE | apply yF | apply yG)); exact yH (yI (p := ⟨gb1020, 1, none⟩) (yI (p := ⟨gb1020, 0, none⟩) (yI (p := ⟨gb1036, 1, none⟩) (yI (p := ⟨gb1036, 0, none⟩) (yI (p := ⟨gb1035, 1, none⟩) (yI (p := ⟨gb1035, 0, none⟩) (Kd.S_types (Kd.S_types (yH HO_5.out (fun k_ hk => (⟨hk, hk.2⟩ : _ ∧ k_ ≠ gb1035))) BK1036.out (by decide)) BK1020.out (by decide)) (fun _ hk => hk.1.1.2) (.int .i64 t1027)) (fun _ hk => hk.1.1.2) (.slice Ao32 t1028.length co32)) (fun _ hk => hk.1.2) (.int .i64 t1032)) (fun _ hk => hk.1.2) (.int .i64 t1033)) (fun _ hk => hk.2) (.int .i64 0)) (fun _ hk => hk.2) (.int .i64 0)) (fun _ hk => trivial), by repeat (first | (with_reducible first | exact HB.out | apply zC | apply zB | apply zF | refine zE ?_ GE1020.out | refine zE ?_ GE1035.out | refine zE ?_ GE1036.out) | exact HB.out)⟩
          ·rw [if_neg c24] at H
           have c24b0 : (t1032 == 3) = false := beq_eq_false_iff_ne.mpr c24
           have c24b1 : (t1032 != 3) = true := bne_iff_ne.mpr c24
           by_cases c36 : t1032 = 0
           ·rw [if_pos c36] at H
            have c36b0 : (t1032 == 0) = true := beq_iff_eq.mpr c36
            have c36b1 : (t1032 != 0) = false := bne_eq_false_iff_eq.mpr c36
            clear c36
            have HC37 := zA H
            clear H
            obtain ⟨Ao38, co38, eo38⟩ := Kd.S_slice HO_5.out
            subst eo38
            go_upto_region 15 with (first | ((with_reducible refine gate_callee (f := 131) rfl ?_); refine goesL_ (some 58) rfl rfl Try.func131 (by kernel_rfl) rfl #[.slice A0 l0.length c0, .int .i64 x6_3, .int .i64 x7_3, .bool ((x5_3.length : Int) == 300)] rfl (by (try simp only [zU, zV, zW]); first | done | rfl | (simp only [zR, zQ]; rfl)) ?_; (with_reducible refine (spec_l02Next.calls k3 _ _ l0 x6_3 x7_3 ((x5_3.length : Int) == 300) t1027 t1028 t1031 t1032 t1033 t1034 _ ?side1 ?side2 A23.out).mono ?_); (case side1 => repeat (first | exact (Kd.C_below HR0.out HB.out) | (with_reducible refine yN ?_ _) | (with_reducible refine yL ?_ _) | (with_reducible refine yM ?_))); (case side2 => exact HC0.out); rintro e w39 ⟨v1029, rfl, ho0, hb⟩; refine ⟨_, rfl, ?_⟩; have n0_ := zA (Kd.S_elder' (by (with_reducible repeat (first | apply yE | apply yF | apply yG)); exact HO_5.out) (Kd.R_base ho0) hb); have n1_ := zA (Kd.R_lower ho0 (zL (by repeat (first | (with_reducible first | exact HB.out | apply zC | apply zB | apply zF | refine zE ?_ GE1020.out) | exact HB.out)))); have n2_ := zA (blk_below (g := gb1020) (o := .cells #[.int .i64 x1021000_3, .int .i64 x1021001_3] 65 (0, 0)) (by (with_reducible repeat (first | refine zG ?_ _ | refine zH ?_ | refine zD ?_ _)); exact BK1020.out) hb); have n3_ := zA (below_step (by repeat (first | (with_reducible first | exact HB.out | apply zC | apply zB | apply zF | refine zE ?_ GE1020.out) | exact HB.out)) hb); clear HO_5; clear BK1020; clear HB; have HO_5 := n0_; have HO1030 := n1_; have BK1020 := n2_; have HB := n3_; clear n0_ n1_ n2_ n3_; (try clear hb); (try clear hb2); (try clear hk); (try clear hi); (try clear ho0)) | ((with_reducible refine gate_dst (N := 8) rfl ?_); (try (refine gate_guard (by rfl) ?_; dsimp only)); refine box_event ?hg (N := 8) ?hd (cs := #[.int .i64 0, .slice none 0 0]) (t := 131) ?hr ?_; (case hd => rfl); (case hg => rfl); (case hr => first | (go_simp; done) | (go_simp; rfl)); intro gb1035 hg w40 hbox hb; have n0_ := zA (Kd.S_below (Kd.S_elderB (by (with_reducible repeat (first | apply yE | apply yF | apply yG)); exact HO_5.out) gb1035 (Nat.le_of_eq hg.symm)) hb); have n1_ := zA (Kd.R_below (by (with_reducible repeat (first | apply zN | apply zM | apply zO)); exact HO1030.out) hb); have n2_ := zA (blk_below (g := gb1020) (o := .cells #[.int .i64 x1021000_3, .int .i64 x1021001_3] 65 (0, 0)) (by (with_reducible repeat (first | refine zG ?_ _ | refine zH ?_ | refine zD ?_ _)); exact BK1020.out) hb); have n3_ := zA (below_step (by repeat (first | (with_reducible first | exact HB.out | apply zC | apply zB | apply zF | refine zE ?_ GE1020.out) | exact HB.out)) hb); have n4_ := zA (hbox); have n5_ := zA ((by rw [hg]; exact (zL (by repeat (first | (with_reducible first | exact HB.out | apply zC | apply zB | apply zF | refine zE ?_ GE1020.out) | exact HB.out))) : w.heap.size ≤ gb1035)); have n6_ := zA ((by rw [hg]; exact (zL (by repeat (first | (with_reducible first | exact HB.out | apply zC | apply zB | apply zF | refine zE ?_ GE1020.out) | exact HB.out))) : w.heap.size ≤ gb1035)); have n7_ := zA ((by rw [hg]; exact Nat.ne_of_lt (blk_lt (g := gb1020) (o := .cells #[.int .i64 x1021000_3, .int .i64 x1021001_3] 65 (0, 0)) (by (with_reducible repeat (first | refine zG ?_ _ | refine zH ?_ | refine zD ?_ _)); exact BK1020.out)) : gb1020 ≠ gb1035)); have n8_ := zA ((by rw [hg]; exact Nat.ne_of_gt (blk_lt (g := gb1020) (o := .cells #[.int .i64 x1021000_3, .int .i64 x1021001_3] 65 (0, 0)) (by (with_reducible repeat (first | refine zG ?_ _ | refine zH ?_ | refine zD ?_ _)); exact BK1020.out)) : gb1035 ≠ gb1020)); clear HO_5; clear HO1030; clear BK1020; clear HB; have HO_5 := n0_; have HO1030 := n1_; have BK1020 := n2_; have HB := n3_; have BK1035 := n4_; have GW1035 := n5_; have GE1035 := n6_; have NB1020_1035 := n7_; have NB1035_1020 := n8_; clear n0_ n1_ n2_ n3_ n4_ n5_ n6_ n7_ n8_; clear hb hbox hg) | ((with_reducible refine gate_dst (N := 10) rfl ?_); (try (refine gate_guard (by rfl) ?_; dsimp only)); refine box_event ?hg (N := 10) ?hd (cs := #[.int .i64 0, .int .i64 0]) (t := 65) ?hr ?_; (case hd => rfl); (case hg => rfl); (case hr => first | (go_simp; done) | (go_simp; rfl)); intro gb1036 hg w41 hbox hb; have n0_ := zA (Kd.S_below (by (with_reducible repeat (first | apply yE | apply yF | apply yG)); exact HO_5.out) hb); have n1_ := zA (Kd.R_below (by (with_reducible repeat (first | apply zN | apply zM | apply zO)); exact HO1030.out) hb); have n2_ := zA (blk_below (g := gb1020) (o := .cells #[.int .i64 x1021000_3, .int .i64 x1021001_3] 65 (0, 0)) (by (with_reducible repeat (first | refine zG ?_ _ | refine zH ?_ | refine zD ?_ _)); exact BK1020.out) hb); have n3_ := zA (blk_below (g := gb1035) (o := .cells #[.int .i64 0, .slice none 0 0] 131 (0, 0)) (by (with_reducible repeat (first | refine zG ?_ _ | refine zH ?_ | refine zD ?_ _)); exact BK1035.out) hb); have n4_ := zA (below_step (by repeat (first | (with_reducible first | exact HB.out | apply zC | apply zB | apply zF | refine zE ?_ GE1020.out | refine zE ?_ GE1035.out) | exact HB.out)) hb); have n5_ := zA (hbox); have n6_ := zA ((by rw [hg]; exact (zL (by repeat (first | (with_reducible first | exact HB.out | apply zC | apply zB | apply zF | refine zE ?_ GE1020.out | refine zE ?_ GE1035.out) | exact HB.out))) : w.heap.size ≤ gb1036)); have n7_ := zA ((by rw [hg]; exact (zL (by repeat (first | (with_reducible first | exact HB.out | apply zC | apply zB | apply zF | refine zE ?_ GE1020.out | refine zE ?_ GE1035.out) | exact HB.out))) : w.heap.size ≤ gb1036)); have n8_ := zA ((by rw [hg]; exact Nat.ne_of_lt (blk_lt (g := gb1020) (o := .cells #[.int .i64 x1021000_3, .int .i64 x1021001_3] 65 (0, 0)) (by (with_reducible repeat (first | refine zG ?_ _ | refine zH ?_ | refine zD ?_ _)); exact BK1020.out)) : gb1020 ≠ gb1036)); have n9_ := zA ((by rw [hg]; exact Nat.ne_of_gt (blk_lt (g := gb1020) (o := .cells #[.int .i64 x1021000_3, .int .i64 x1021001_3] 65 (0, 0)) (by (with_reducible repeat (first | refine zG ?_ _ | refine zH ?_ | refine zD ?_ _)); exact BK1020.out)) : gb1036 ≠ gb1020)); have n10_ := zA ((by rw [hg]; exact Nat.ne_of_lt (blk_lt (g := gb1035) (o := .cells #[.int .i64 0, .slice none 0 0] 131 (0, 0)) (by (with_reducible repeat (first | refine zG ?_ _ | refine zH ?_ | refine zD ?_ _)); exact BK1035.out)) : gb1035 ≠ gb1036)); have n11_ := zA ((by rw [hg]; exact Nat.ne_of_gt (blk_lt (g := gb1035) (o := .cells #[.int .i64 0, .slice none 0 0] 131 (0, 0)) (by (with_reducible repeat (first | refine zG ?_ _ | refine zH ?_ | refine zD ?_ _)); exact BK1035.out)) : gb1036 ≠ gb1035)); clear HO_5; clear HO1030; clear BK1020; clear BK1035; clear HB; have HO_5 := n0_; have HO1030 := n1_; have BK1020 := n2_; have BK1035 := n3_; have HB := n4_; have BK1036 := n5_; have GW1036 := n6_; have GE1036 := n7_; have NB1020_1036 := n8_; have NB1036_1020 := n9_; have NB1035_1036 := n10_; have NB1036_1035 := n11_; clear n0_ n1_ n2_ n3_ n4_ n5_ n6_ n7_ n8_ n9_ n10_ n11_; clear hb hbox hg; have hnb42 := NB1035_1020.out; have hnc42 := NB1020_1035.out; have hnb43 := NB1035_1036.out; have hnc43 := NB1036_1035.out; have hcz44_0 : w41.cell? ⟨gb1035, 0, none⟩ = some (.int .i64 0) := (zK BK1035.out 0).trans rfl; have hcz44_1 : w41.cell? ⟨gb1035, 1, none⟩ = some (.slice none 0 0) := (zK BK1035.out 1).trans rfl; have hfz44_0 := zJ BK1035.out 0; have hfz44_1 := zJ BK1035.out 1; obtain ⟨Ao45, co45, eo45⟩ := Kd.R_slice HO1030.out; subst eo45; have hnb46 := NB1036_1020.out; have hnc46 := NB1020_1036.out; have hcz47_0 : w41.cell? ⟨gb1036, 0, none⟩ = some (.int .i64 0) := (zK BK1036.out 0).trans rfl; have hcz47_1 : w41.cell? ⟨gb1036, 1, none⟩ = some (.int .i64 0) := (zK BK1036.out 1).trans rfl; have hfz47_0 := zJ BK1036.out 0; have hfz47_1 := zJ BK1036.out 1))
            (try simp only [Act.put, List.setIfInBounds_toArray, List.set_cons_zero, List.set_cons_succ])
            go_cut [79] (fun v79 wc => ∃ (kq : Nat) (x79_36 : Bool), v79 = .bool x79_36 ∧ Aside0 (spec_SegsSoFar.j3 kq l0 x5_3 t1031 t1034 x79_36 t1027 t1028 = some (r1, r2, r3, r4)) ∧ Aside0 (kq ≤ k3) ∧ Aside0 (Kd.S k131 131 wc w.heap.size (fun k_ => some k_ ≠ ((.slice Ao45 t1028.length co45) : Value).ownBlock ∧ k_ ≠ gb1035) (.slice Ao38 x5_3.length co38) x5_3) ∧ Aside0 (Kd.R (Kd.int .u8) 5 wc w.heap.size (fun _ => True) (.slice Ao45 t1028.length co45) t1028) ∧ Aside0 (wc.heap[gb1020]? = some (.cells #[.int .i64 x1021000_3, .int .i64 x1021001_3] 65 (0, 0))) ∧ Aside0 (wc.heap[gb1035]? = some (.cells #[.int .i64 t1027, (.slice Ao45 t1028.length co45)] 131 (0, 0))) ∧ Aside0 (wc.heap[gb1036]? = some (.cells #[.int .i64 t1032, .int .i64 t1033] 65 (0, 0))) ∧ Aside0 (Below w.heap.size w wc))
            case first =>
             have H := HC37.out
             clear HC37
             by_cases c48 : t1034 = true
             ·subst c48
              have H1 : (spec_SegsSoFar.j3 k3 l0 x5_3 t1031 true (decide (t1031 < (l0.length : Int))) t1027 t1028) = some (r1, r2, r3, r4) := by rw [if_pos rfl] at H; exact H
              clear H
              have H := H1
              clear H1
              have H' := zA H
              clear H
              go_wp2
              go_meet
              case rel => exact ⟨_, (decide (t1031 < (l0.length : Int))), (by first | rfl | (simp; done) | (simp [*]; done)), H', ⟨by have := HJ6.out; have := HJ15.out; have := HK3.out; first | omega | exact Nat.le_refl _⟩, ⟨by (with_reducible repeat (first | apply yE | apply yF | apply yG)); exact yH (yI (p := ⟨gb1036, 1, none⟩) (yI (p := ⟨gb1036, 0, none⟩) (yI (p := ⟨gb1035, 1, none⟩) (yI (p := ⟨gb1035, 0, none⟩) (Kd.S_types (yH HO_5.out (fun k_ hk => (⟨hk, hk.2⟩ : _ ∧ k_ ≠ gb1035))) BK1036.out (by decide)) (fun _ hk => hk.1.2) (.int .i64 t1027)) (fun _ hk => hk.1.2) (.slice Ao45 t1028.length co45)) (fun _ hk => hk.2) (.int .i64 t1032)) (fun _ hk => hk.2) (.int .i64 t1033)) (fun _ hk => ⟨hk.1.1.1.2, hk.1.1.2⟩)⟩, ⟨by (with_reducible repeat (first | apply zN | apply zM | apply zO)); exact zP (Kd.R_far (p := ⟨gb1036, 1, none⟩) (Kd.R_far (p := ⟨gb1036, 0, none⟩) (Kd.R_far (p := ⟨gb1035, 1, none⟩) (Kd.R_far (p := ⟨gb1035, 0, none⟩) (zY (zY HO1030.out BK1035.out (by decide)) BK1036.out (by decide)) (fun _ hk => hk.1.2) (.int .i64 t1027)) (fun _ hk => hk.1.2) (.slice Ao45 t1028.length co45)) (fun _ hk => hk.2) (.int .i64 t1032)) (fun _ hk => hk.2) (.int .i64 t1033)) (fun _ hk => trivial)⟩, ⟨by (with_reducible repeat (first | refine zG ?_ _ | refine zH ?_ | refine zD ?_ _)); refine blk_far ?_ NB1020_1036.out _; (with_reducible repeat (first | refine zG ?_ _ | refine zH ?_ | refine zD ?_ _)); refine blk_far ?_ NB1020_1036.out _; (with_reducible repeat (first | refine zG ?_ _ | refine zH ?_ | refine zD ?_ _)); refine blk_far ?_ NB1020_1035.out _; (with_reducible repeat (first | refine zG ?_ _ | refine zH ?_ | refine zD ?_ _)); refine blk_far ?_ NB1020_1035.out _; (with_reducible repeat (first | refine zG ?_ _ | refine zH ?_ | refine zD ?_ _)); exact BK1020.out⟩, ⟨by (with_reducible repeat (first | refine zG ?_ _ | refine zH ?_ | refine zD ?_ _)); refine blk_far ?_ NB1035_1036.out _; (with_reducible repeat (first | refine zG ?_ _ | refine zH ?_ | refine zD ?_ _)); refine blk_far ?_ NB1035_1036.out _; (with_reducible repeat (first | refine zG ?_ _ | refine zH ?_ | refine zD ?_ _)); refine blk_put (cs := #[.int .i64 t1027, .slice none 0 0]) ?_ 1 _ rfl; (with_reducible repeat (first | refine zG ?_ _ | refine zH ?_ | refine zD ?_ _)); refine blk_put (cs := #[.int .i64 0, .slice none 0 0]) ?_ 0 _ rfl; (with_reducible repeat (first | refine zG ?_ _ | refine zH ?_ | refine zD ?_ _)); exact BK1035.out⟩, ⟨by (with_reducible repeat (first | refine zG ?_ _ | refine zH ?_ | refine zD ?_ _)); refine blk_put (cs := #[.int .i64 t1032, .int .i64 0]) ?_ 1 _ rfl; (with_reducible repeat (first | refine zG ?_ _ | refine zH ?_ | refine zD ?_ _)); refine blk_put (cs := #[.int .i64 0, .int .i64 0]) ?_ 0 _ rfl; (with_reducible repeat (first | refine zG ?_ _ | refine zH ?_ | refine zD ?_ _)); refine blk_far ?_ NB1036_1035.out _; (with_reducible repeat (first | refine zG ?_ _ | refine zH ?_ | refine zD ?_ _)); refine blk_far ?_ NB1036_1035.out _; (with_reducible repeat (first | refine zG ?_ _ | refine zH ?_ | refine zD ?_ _)); exact BK1036.out⟩, ⟨by repeat (first | (with_reducible first | exact HB.out | apply zC | apply zB | apply zF | refine zE ?_ GE1020.out | refine zE ?_ GE1035.out | refine zE ?_ GE1036.out) | exact HB.out)⟩⟩
             ·replace c48 := Bool.eq_false_iff.mpr c48
              subst c48
              have H1 : (spec_SegsSoFar.j3 k3 l0 x5_3 t1031 false false t1027 t1028) = some (r1, r2, r3, r4) := by rw [if_neg (show ¬ (false = true) by decide)] at H; exact H
              clear H
              have H := H1
              clear H1
              have H' := zA H
              clear H
              go_wp2
              go_meet
              case rel => exact ⟨_, (false), (by first | rfl | (simp; done) | (simp [*]; done)), H', ⟨by have := HJ6.out; have := HJ15.out; have := HK3.out; first | omega | exact Nat.le_refl _⟩, ⟨by (with_reducible repeat (first | apply yE | apply yF | apply yG)); exact yH (yI (p := ⟨gb1036, 1, none⟩) (yI (p := ⟨gb1036, 0, none⟩) (yI (p := ⟨gb1035, 1, none⟩) (yI (p := ⟨gb1035, 0, none⟩) (Kd.S_types (yH HO_5.out (fun k_ hk => (⟨hk, hk.2⟩ : _ ∧ k_ ≠ gb1035))) BK1036.out (by decide)) (fun _ hk => hk.1.2) (.int .i64 t1027)) (fun _ hk => hk.1.2) (.slice Ao45 t1028.length co45)) (fun _ hk => hk.2) (.int .i64 t1032)) (fun _ hk => hk.2) (.int .i64 t1033)) (fun _ hk => ⟨hk.1.1.1.2, hk.1.1.2⟩)⟩, ⟨by (with_reducible repeat (first | apply zN | apply zM | apply zO)); exact zP (Kd.R_far (p := ⟨gb1036, 1, none⟩) (Kd.R_far (p := ⟨gb1036, 0, none⟩) (Kd.R_far (p := ⟨gb1035, 1, none⟩) (Kd.R_far (p := ⟨gb1035, 0, none⟩) (zY (zY HO1030.out BK1035.out (by decide)) BK1036.out (by decide)) (fun _ hk => hk.1.2) (.int .i64 t1027)) (fun _ hk => hk.1.2) (.slice Ao45 t1028.length co45)) (fun _ hk => hk.2) (.int .i64 t1032)) (fun _ hk => hk.2) (.int .i64 t1033)) (fun _ hk => trivial)⟩, ⟨by (with_reducible repeat (first | refine zG ?_ _ | refine zH ?_ | refine zD ?_ _)); refine blk_far ?_ NB1020_1036.out _; (with_reducible repeat (first | refine zG ?_ _ | refine zH ?_ | refine zD ?_ _)); refine blk_far ?_ NB1020_1036.out _; (with_reducible repeat (first | refine zG ?_ _ | refine zH ?_ | refine zD ?_ _)); refine blk_far ?_ NB1020_1035.out _; (with_reducible repeat (first | refine zG ?_ _ | refine zH ?_ | refine zD ?_ _)); refine blk_far ?_ NB1020_1035.out _; (with_reducible repeat (first | refine zG ?_ _ | refine zH ?_ | refine zD ?_ _)); exact BK1020.out⟩, ⟨by (with_reducible repeat (first | refine zG ?_ _ | refine zH ?_ | refine zD ?_ _)); refine blk_far ?_ NB1035_1036.out _; (with_reducible repeat (first | refine zG ?_ _ | refine zH ?_ | refine zD ?_ _)); refine blk_far ?_ NB1035_1036.out _; (with_reducible repeat (first | refine zG ?_ _ | refine zH ?_ | refine zD ?_ _)); refine blk_put (cs := #[.int .i64 t1027, .slice none 0 0]) ?_ 1 _ rfl; (with_reducible repeat (first | refine zG ?_ _ | refine zH ?_ | refine zD ?_ _)); refine blk_put (cs := #[.int .i64 0, .slice none 0 0]) ?_ 0 _ rfl; (with_reducible repeat (first | refine zG ?_ _ | refine zH ?_ | refine zD ?_ _)); exact BK1035.out⟩, ⟨by (with_reducible repeat (first | refine zG ?_ _ | refine zH ?_ | refine zD ?_ _)); refine blk_put (cs := #[.int .i64 t1032, .int .i64 0]) ?_ 1 _ rfl; (with_reducible repeat (first | refine zG ?_ _ | refine zH ?_ | refine zD ?_ _)); refine blk_put (cs := #[.int .i64 0, .int .i64 0]) ?_ 0 _ rfl; (with_reducible repeat (first | refine zG ?_ _ | refine zH ?_ | refine zD ?_ _)); refine blk_far ?_ NB1036_1035.out _; (with_reducible repeat (first | refine zG ?_ _ | refine zH ?_ | refine zD ?_ _)); refine blk_far ?_ NB1036_1035.out _; (with_reducible repeat (first | refine zG ?_ _ | refine zH ?_ | refine zD ?_ _)); exact BK1036.out⟩, ⟨by repeat (first | (with_reducible first | exact HB.out | apply zC | apply zB | apply zF | refine zE ?_ GE1020.out | refine zE ?_ GE1035.out | refine zE ?_ GE1036.out) | exact HB.out)⟩⟩
            case rest =>
             clear HC37
             try clear c1
             try clear p1
             try clear q1
             try clear hx1
             try clear qi1
             try clear c2
             try clear c2b0
             try clear c2b1
             try clear p2
             try clear c3
             try clear c4
             try clear c5
             try clear p10
             try clear q10
             try clear hx10
             try clear qi10
             try clear c11
             try clear c11b0
             try clear c11b1
             try clear c11b2
             try clear c12
             try clear c12b0
             try clear c12b1
             try clear c13
             try clear c13b0
             try clear c13b1
             try clear c14
             try clear c17
             try clear c17b0
             try clear c17b1
             try clear c18
             try clear c18b0
             try clear c18b1
             try clear c19
             try clear c19b0
             try clear c19b1
             try clear c20
             try clear c20b0
             try clear c20b1
             try clear c21
             try clear c24
             try clear c24b0
             try clear c24b1
             try clear c29
             try clear c30
             try clear c33
             try clear c36
             try clear c36b0
             try clear c36b1
             try clear c42
             try clear c43
             try clear c46
             try clear c48
             try clear hcz15_0
             try clear hcz15_1
             try clear hcz22_0
             try clear hcz22_1
             try clear hcz31_0
             try clear hcz31_1
             try clear hcz34_0
             try clear hcz34_1
             try clear hcz35_0
             try clear hcz35_1
             try clear hcz44_0
             try clear hcz44_1
             try clear hcz47_0
             try clear hcz47_1
             try clear hcz6_0
             try clear hcz6_1
             try clear hfz15_0
             try clear hfz15_1
             try clear hfz22_0
             try clear hfz22_1
             try clear hfz31_0
             try clear hfz31_1
             try clear hfz34_0
             try clear hfz34_1
             try clear hfz35_0
             try clear hfz35_1
             try clear hfz44_0
             try clear hfz44_1
             try clear hfz47_0
             try clear hfz47_1
             try clear hfz6_0
             try clear hfz6_1
             try clear hx1024_0
             try clear hx1025_0
             try clear hx1026_0
             try clear p1
             try clear p10
             try clear p1024
             try clear p1025
             try clear p1026
             try clear p2
             try clear q1
             try clear q10
             try clear q1024
             try clear q1025
             try clear q1026
             obtain ⟨kq, x79_36, rfl, HA, HJ36, HO_5, HO_1036001, BK1020, BK1035, BK1036, HB⟩ := hcut
             cases kq with
             | zero => exact absurd HA.out (by simp [spec_SegsSoFar.j3])
             | succ kj36 =>
              have H := HA.out
              clear HA
              simp only [spec_SegsSoFar.j3] at H
              by_cases c49 : x79_36 = true
              ·subst c49
               have H1 : (some (x5_3, true, 7, t1031)) = some (r1, r2, r3, r4) := by rw [if_pos rfl] at H; exact H
               clear H
               have H := H1
               clear H1
               simp only [Option.some.injEq, Prod.mk.injEq] at H
               obtain ⟨rfl, rfl, rfl, rfl⟩ := H
               have hnb50 := NB1020_1035.out
               have hnc50 := NB1035_1020.out
               have hnb51 := NB1020_1036.out
               have hnc51 := NB1036_1020.out
               have hcz52_0 : wc.cell? ⟨gb1020, 0, none⟩ = some (.int .i64 x1021000_3) := (zK BK1020.out 0).trans rfl
               have hcz52_1 : wc.cell? ⟨gb1020, 1, none⟩ = some (.int .i64 x1021001_3) := (zK BK1020.out 1).trans rfl
               have hfz52_0 := zJ BK1020.out 0
               have hfz52_1 := zJ BK1020.out 1
               go_wp2
               refine bodyPost_ret (results_list (rs := [.tmp 2, .tmp 3, .cell 4 65]) rfl (by simp) (.tmp (.tmp (.cell gb1020 65 #[.int .i64 7, .int .i64 t1031] (0, 0) _ rfl (by (with_reducible repeat (first | refine zG ?_ _ | refine zH ?_ | refine zD ?_ _)); refine blk_put (cs := #[.int .i64 7, .int .i64 x1021001_3]) ?_ 1 _ rfl; (with_reducible repeat (first | refine zG ?_ _ | refine zH ?_ | refine zD ?_ _)); refine blk_put (cs := #[.int .i64 x1021000_3, .int .i64 x1021001_3]) ?_ 0 _ rfl; (with_reducible repeat (first | refine zG ?_ _ | refine zH ?_ | refine zD ?_ _)); exact BK1020.out) Try.underlying65 rfl (by kernel_rfl) .nil)))) rfl ?_
               exact ⟨_, by first | rfl | (simp [errW_none, errW_some] <;> rfl) | (simp [*, errW_none, errW_some] <;> rfl), by (with_reducible repeat (first | apply yE | apply yF | apply yG)); exact yH (yI (p := ⟨gb1020, 1, none⟩) (yI (p := ⟨gb1020, 0, none⟩) (Kd.S_types HO_5.out BK1020.out (by decide)) (fun _ hk => hk.2) (.int .i64 7)) (fun _ hk => hk.2) (.int .i64 t1031)) (fun _ hk => trivial), by repeat (first | (with_reducible first | exact HB.out | apply zC | apply zB | apply zF | refine zE ?_ GE1020.out | refine zE ?_ GE1035.out | refine zE ?_ GE1036.out) | exact HB.out)⟩
              ·replace c49 := Bool.eq_false_iff.mpr c49
               subst c49
               have H1 : (if t1034 = true then (some (x5_3, true, 0, 0)) else (if t1027 = 0 then (if (wrap64 (t1031 + 1)) ≥ (l0.length : Int) then (some (x5_3, false, 0, 0)) else (if x5_3.length < 4398046511104 then ((spec_l02Kind.f t1027).bind fun t1040 => (spec_SegsSoFar.l0 kj36 l0 (x5_3 ++ [(⟨t1027, t1028⟩ : S131)]) t1031 t1040)) else (none))) else (if x5_3.length < 4398046511104 then ((spec_l02Kind.f t1027).bind fun t1044 => (spec_SegsSoFar.l0 kj36 l0 (x5_3 ++ [(⟨t1027, t1028⟩ : S131)]) t1031 t1044)) else (none)))) = some (r1, r2, r3, r4) := by rw [if_neg (show ¬ (false = true) by decide)] at H; exact H
               clear H
               have H := H1
               clear H1
               by_cases c53 : t1034 = true
               ·subst c53
                have H1 : (some (x5_3, true, 0, 0)) = some (r1, r2, r3, r4) := by rw [if_pos rfl] at H; exact H
                clear H
                have H := H1
                clear H1
                simp only [Option.some.injEq, Prod.mk.injEq] at H
                obtain ⟨rfl, rfl, rfl, rfl⟩ := H
                have hnb54 := NB1020_1035.out
                have hnc54 := NB1035_1020.out
                have hnb55 := NB1020_1036.out
                have hnc55 := NB1036_1020.out
                have hcz56_0 : wc.cell? ⟨gb1020, 0, none⟩ = some (.int .i64 x1021000_3) := (zK BK1020.out 0).trans rfl
                have hcz56_1 : wc.cell? ⟨gb1020, 1, none⟩ = some (.int .i64 x1021001_3) := (zK BK1020.out 1).trans rfl
                have hfz56_0 := zJ BK1020.out 0
                have hfz56_1 := zJ BK1020.out 1
                go_wp2
                refine bodyPost_ret (results_list (rs := [.tmp 2, .tmp 3, .cell 4 65]) rfl (by simp) (.tmp (.tmp (.cell gb1020 65 #[.int .i64 0, .int .i64 0] (0, 0) _ rfl (by (with_reducible repeat (first | refine zG ?_ _ | refine zH ?_ | refine zD ?_ _)); refine blk_put (cs := #[.int .i64 0, .int .i64 x1021001_3]) ?_ 1 _ rfl; (with_reducible repeat (first | refine zG ?_ _ | refine zH ?_ | refine zD ?_ _)); refine blk_put (cs := #[.int .i64 x1021000_3, .int .i64 x1021001_3]) ?_ 0 _ rfl; (with_reducible repeat (first | refine zG ?_ _ | refine zH ?_ | refine zD ?_ _)); exact BK1020.out) Try.underlying65 rfl (by kernel_rfl) .nil)))) rfl ?_
                exact ⟨_, by first | rfl | (simp [errW_none, errW_some] <;> rfl) | (simp [*, errW_none, errW_some] <;> rfl), by (with_reducible repeat (first | apply yE | apply yF | apply yG)); exact yH (yI (p := ⟨gb1020, 1, none⟩) (yI (p := ⟨gb1020, 0, none⟩) (Kd.S_types HO_5.out BK1020.out (by decide)) (fun _ hk => hk.2) (.int .i64 0)) (fun _ hk => hk.2) (.int .i64 0)) (fun _ hk => trivial), by repeat (first | (with_reducible first | exact HB.out | apply zC | apply zB | apply zF | refine zE ?_ GE1020.out | refine zE ?_ GE1035.out | refine zE ?_ GE1036.out) | exact HB.out)⟩
               ·replace c53 := Bool.eq_false_iff.mpr c53
                subst c53
                have H1 : (if t1027 = 0 then (if (wrap64 (t1031 + 1)) ≥ (l0.length : Int) then (some (x5_3, false, 0, 0)) else (if x5_3.length < 4398046511104 then ((spec_l02Kind.f t1027).bind fun t1040 => (spec_SegsSoFar.l0 kj36 l0 (x5_3 ++ [(⟨t1027, t1028⟩ : S131)]) t1031 t1040)) else (none))) else (if x5_3.length < 4398046511104 then ((spec_l02Kind.f t1027).bind fun t1044 => (spec_SegsSoFar.l0 kj36 l0 (x5_3 ++ [(⟨t1027, t1028⟩ : S131)]) t1031 t1044)) else (none))) = some (r1, r2, r3, r4) := by rw [if_neg (show ¬ (false = true) by decide)] at H; exact H
                clear H
                have H := H1
                clear H1
                by_cases c57 : t1027 = 0
                ·rw [if_pos c57] at H
                 have c57b0 : (t1027 == 0) = true := beq_iff_eq.mpr c57
                 have c57b1 : (t1027 != 0) = false := bne_eq_false_iff_eq.mpr c57
                 clear c57
                 by_cases c58 : (wrap64 (t1031 + 1)) ≥ (l0.length : Int)
                 ·rw [if_pos c58] at H
                  have c58b0 : decide ((l0.length : Int) ≤ (wrap64 (t1031 + 1))) = true := zT c58
                  clear c58
                  simp only [Option.some.injEq, Prod.mk.injEq] at H
                  obtain ⟨rfl, rfl, rfl, rfl⟩ := H
                  have hnb59 := NB1035_1020.out
                  have hnc59 := NB1020_1035.out
                  have hnb60 := NB1035_1036.out
                  have hnc60 := NB1036_1035.out
                  have hcz61_0 : wc.cell? ⟨gb1035, 0, none⟩ = some (.int .i64 t1027) := (zK BK1035.out 0).trans rfl
                  have hcz61_1 : wc.cell? ⟨gb1035, 1, none⟩ = some (.slice Ao45 t1028.length co45) := (zK BK1035.out 1).trans rfl
                  have hfz61_0 := zJ BK1035.out 0
                  have hfz61_1 := zJ BK1035.out 1
                  have hnb62 := NB1020_1036.out
                  have hnc62 := NB1036_1020.out
                  have hcz63_0 : wc.cell? ⟨gb1020, 0, none⟩ = some (.int .i64 x1021000_3) := (zK BK1020.out 0).trans rfl
                  have hcz63_1 : wc.cell? ⟨gb1020, 1, none⟩ = some (.int .i64 x1021001_3) := (zK BK1020.out 1).trans rfl
                  have hfz63_0 := zJ BK1020.out 0
                  have hfz63_1 := zJ BK1020.out 1
                  go_wp2
                  refine bodyPost_ret (results_list (rs := [.tmp 2, .tmp 3, .cell 4 65]) rfl (by simp) (.tmp (.tmp (.cell gb1020 65 #[.int .i64 0, .int .i64 0] (0, 0) _ rfl (by (with_reducible repeat (first | refine zG ?_ _ | refine zH ?_ | refine zD ?_ _)); refine blk_put (cs := #[.int .i64 0, .int .i64 x1021001_3]) ?_ 1 _ rfl; (with_reducible repeat (first | refine zG ?_ _ | refine zH ?_ | refine zD ?_ _)); refine blk_put (cs := #[.int .i64 x1021000_3, .int .i64 x1021001_3]) ?_ 0 _ rfl; (with_reducible repeat (first | refine zG ?_ _ | refine zH ?_ | refine zD ?_ _)); exact BK1020.out) Try.underlying65 rfl (by kernel_rfl) .nil)))) rfl ?_
                  exact ⟨_, by first | rfl | (simp [errW_none, errW_some] <;> rfl) | (simp [*, errW_none, errW_some] <;> rfl), by (with_reducible repeat (first | apply yE | apply yF | apply yG)); exact yH (yI (p := ⟨gb1020, 1, none⟩) (yI (p := ⟨gb1020, 0, none⟩) (Kd.S_types HO_5.out BK1020.out (by decide)) (fun _ hk => hk.2) (.int .i64 0)) (fun _ hk => hk.2) (.int .i64 0)) (fun _ hk => trivial), by repeat (first | (with_reducible first | exact HB.out | apply zC | apply zB | apply zF | refine zE ?_ GE1020.out | refine zE ?_ GE1035.out | refine zE ?_ GE1036.out) | exact HB.out)⟩
                 ·rw [if_neg c58] at H
                  have c58b0 : decide ((l0.length : Int) ≤ (wrap64 (t1031 + 1))) = false := decide_eq_false c58
                  clear c58
                  by_cases c64 : x5_3.length < 4398046511104
                  ·rw [if_pos c64] at H
                   have LMc64 := zA c64
                   clear c64
                   obtain ⟨y1037, hy1037⟩ : ∃ y_ : List (S131), y_ = (x5_3 ++ [(⟨t1027, t1028⟩ : S131)]) := ⟨_, rfl⟩
                   replace H : ((spec_l02Kind.f t1027).bind fun t1040 => (spec_SegsSoFar.l0 kj36 l0 y1037 t1031 t1040)) = some (r1, r2, r3, r4) := by first | (rw [hy1037]; with_reducible exact H) | (have H2_ := (zS _ _).symm.trans H; rw [hy1037]; with_reducible exact H2_) | (have H2_ := (zS _ _).symm.trans H; with_reducible exact H2_) | with_reducible exact H | (rw [hy1037]; exact H) | exact H
                   have Ny1037 := zA hy1037
                   clear hy1037
                   replace H := Option.bind_eq_some_iff.mp H
                   obtain ⟨t1040, A650, H⟩ := H
                   replace H : (spec_SegsSoFar.l0 kj36 l0 y1037 t1031 t1040) = some (r1, r2, r3, r4) := H
                   have A65 := zA A650
                   clear A650
                   have H' := zA H
                   clear H
                   have hnb66 := NB1035_1020.out
                   have hnc66 := NB1020_1035.out
                   have hnb67 := NB1035_1036.out
                   have hnc67 := NB1036_1035.out
                   have hcz68_0 : wc.cell? ⟨gb1035, 0, none⟩ = some (.int .i64 t1027) := (zK BK1035.out 0).trans rfl
                   have hcz68_1 : wc.cell? ⟨gb1035, 1, none⟩ = some (.slice Ao45 t1028.length co45) := (zK BK1035.out 1).trans rfl
                   have hfz68_0 := zJ BK1035.out 0
                   have hfz68_1 := zJ BK1035.out 1
                   go_wp2_with (first | ((with_reducible refine gate_builtin (b := .append) (xs := #[.tmp 98, .tmp 100]) rfl ?_); (try (refine gate_guard (by rfl) ?_; dsimp only)); at_builtin; refine Kd.S_append k131 (w0 := w) w.heap.size rfl (.tmp 98) (.tmp 100) 63 131 (.agg #[(.int .i64 0), (.slice none 0 0)]) 32 rfl Try.underlying63 info131 rfl (by decide) (by omega) (.slice Ao38 x5_3.length co38) x5_3 (⟨t1027, t1028⟩ : S131) [.int .i64 t1027, .slice Ao45 t1028.length co45] (fun k_ => k_ ≠ gb1035) (fun k_ => some k_ = (.slice Ao45 t1028.length co45 : Value).ownBlock) rfl rfl ?aP (fun k_ hk_ => ((zP (ok' := fun k_ => ((fun k_ => k_ ≠ gb1035)) k_ ∧ some k_ ≠ (.slice Ao38 x5_3.length co38 : Value).ownBlock) (zY (Kd.R_apart' (HO_1036001.out) (Kd.S_typed HO_5.out) (by decide)) BK1035.out (by decide)) (fun k_ hk => ⟨hk.2, hk.1.2⟩))).1 k_ hk_.symm) ?aF ?aO ?aB ?aS ?aL ?_; (case aP => exact k131_mkM _ _ _ (⟨t1027, t1028⟩ : S131) (zP (Kd.R_tight rfl (zP (ok' := fun k_ => ((fun k_ => k_ ≠ gb1035)) k_ ∧ some k_ ≠ (.slice Ao38 x5_3.length co38 : Value).ownBlock) (zY (Kd.R_apart' (HO_1036001.out) (Kd.S_typed HO_5.out) (by decide)) BK1035.out (by decide)) (fun k_ hk => ⟨hk.2, hk.1.2⟩))) (fun _ h_ => h_))); (case aB => exact (by repeat (first | (with_reducible first | exact HB.out | apply zC | apply zB | apply zF | refine zE ?_ GE1020.out | refine zE ?_ GE1035.out | refine zE ?_ GE1036.out) | exact HB.out))); (case aF => exact (fun k_ hk => Kd.freshB (g := gb1035) (o := .cells #[.int .i64 t1027, .slice Ao45 t1028.length co45] 131 (0, 0)) (by (with_reducible repeat (first | refine zG ?_ _ | refine zH ?_ | refine zD ?_ _)); exact BK1035.out) k_ hk)); (case aO => exact (by (with_reducible repeat (first | apply yE | apply yF | apply yG)); exact yH HO_5.out (fun k_ hk => ⟨hk.2, fun e_ => hk.1 e_⟩))); (case aS => exact (zL (by repeat (first | (with_reducible first | exact HB.out | apply zC | apply zB | apply zF | refine zE ?_ GE1020.out | refine zE ?_ GE1035.out | refine zE ?_ GE1036.out) | exact HB.out)))); (case aL => have := LMc64.out; omega); intro v1038 w69 ho hb hg hat; rw [← Ny1037.out] at ho; have n0_ := zA (blk_grown (g := gb1020) (o := .cells #[.int .i64 x1021000_3, .int .i64 x1021001_3] 65 (0, 0)) (by (with_reducible repeat (first | refine zG ?_ _ | refine zH ?_ | refine zD ?_ _)); exact BK1020.out) hg (Kd.S_ne HO_5.out BK1020.out (by decide))); have n1_ := zA (blk_grown (g := gb1035) (o := .cells #[.int .i64 t1027, .slice Ao45 t1028.length co45] 131 (0, 0)) (by (with_reducible repeat (first | refine zG ?_ _ | refine zH ?_ | refine zD ?_ _)); exact BK1035.out) hg (Kd.S_away HO_5.out (fun _ hk => hk.2))); have n2_ := zA (blk_grown (g := gb1036) (o := .cells #[.int .i64 t1032, .int .i64 t1033] 65 (0, 0)) (by (with_reducible repeat (first | refine zG ?_ _ | refine zH ?_ | refine zD ?_ _)); exact BK1036.out) hg (Kd.S_ne HO_5.out BK1036.out (by decide))); have n3_ := zA (hb); have n4_ := zA (ho); clear BK1020; clear BK1035; clear BK1036; clear HB; clear HO_5; clear HO_1036001; have BK1020 := n0_; have BK1035 := n1_; have BK1036 := n2_; have HB := n3_; have HO1039 := n4_; clear n0_ n1_ n2_ n3_ n4_; clear ho hb hg hat; have hcz70_0 : w69.cell? ⟨gb1035, 0, none⟩ = some (.int .i64 t1027) := (zK BK1035.out 0).trans rfl; have hcz70_1 : w69.cell? ⟨gb1035, 1, none⟩ = some (.slice Ao45 t1028.length co45) := (zK BK1035.out 1).trans rfl; have hfz70_0 := zJ BK1035.out 0; have hfz70_1 := zJ BK1035.out 1) | ((with_reducible refine gate_callee (f := 132) rfl ?_); refine goesL_ (some 104) rfl rfl Try.func132 (by kernel_rfl) rfl #[.int .i64 t1027] rfl (by (try simp only [zU, zV, zW]); first | done | rfl | (simp only [zR, zQ]; rfl)) ?_; (with_reducible refine (spec_l02Kind.calls t1027 t1040 _ A65.out).mono ?_); rintro e w' ⟨rfl, ⟨nd, rfl⟩⟩; refine ⟨_, rfl, ?_⟩))
                   go_roundg kj36
                   case measure => have := HJ6.out; have := HJ15.out; have := HK3.out; have := HJ36.out; omega
                   case rel => exact ⟨(y1037), (t1031), (t1040), (x1021000_3), (x1021001_3), (by first | rfl | (simp; done) | (simp [*]; done)), (by first | rfl | (simp; done) | (simp [*]; done)), H', ⟨by have := HJ6.out; have := HJ15.out; have := HK3.out; have := HJ36.out; omega⟩, ⟨by (with_reducible repeat (first | apply yE | apply yF | apply yG)); exact yH HO1039.out (fun _ hk => trivial)⟩, ⟨by (with_reducible repeat (first | refine zG ?_ _ | refine zH ?_ | refine zD ?_ _)); exact BK1020.out⟩, ⟨by repeat (first | (with_reducible first | exact HB.out | apply zC | apply zB | apply zF | refine zE ?_ GE1020.out | refine zE ?_ GE1035.out | refine zE ?_ GE1036.out) | exact HB.out)⟩⟩
                  ·rw [if_neg c64] at H
                   exact absurd H (by simp)
                ·rw [if_neg c57] at H
                 have c57b0 : (t1027 == 0) = false := beq_eq_false_iff_ne.mpr c57
                 have c57b1 : (t1027 != 0) = true := bne_iff_ne.mpr c57
                 by_cases c71 : x5_3.length < 4398046511104
                 ·rw [if_pos c71] at H
                  have LMc71 := zA c71
                  clear c71
                  obtain ⟨y1041, hy1041⟩ : ∃ y_ : List (S131), y_ = (x5_3 ++ [(⟨t1027, t1028⟩ : S131)]) := ⟨_, rfl⟩
                  replace H : ((spec_l02Kind.f t1027).bind fun t1044 => (spec_SegsSoFar.l0 kj36 l0 y1041 t1031 t1044)) = some (r1, r2, r3, r4) := by first | (rw [hy1041]; with_reducible exact H) | (have H2_ := (zS _ _).symm.trans H; rw [hy1041]; with_reducible exact H2_) | (have H2_ := (zS _ _).symm.trans H; with_reducible exact H2_) | with_reducible exact H | (rw [hy1041]; exact H) | exact H
                  have Ny1041 := zA hy1041
                  clear hy1041
                  replace H := Option.bind_eq_some_iff.mp H
                  obtain ⟨t1044, A720, H⟩ := H
                  replace H : (spec_SegsSoFar.l0 kj36 l0 y1041 t1031 t1044) = some (r1, r2, r3, r4) := H
                  have A72 := zA A720
                  clear A720
                  have H' := zA H
                  clear H
                  have hnb73 := NB1035_1020.out
                  have hnc73 := NB1020_1035.out
                  have hnb74 := NB1035_1036.out
                  have hnc74 := NB1036_1035.out
                  have hcz75_0 : wc.cell? ⟨gb1035, 0, none⟩ = some (.int .i64 t1027) := (zK BK1035.out 0).trans rfl
                  have hcz75_1 : wc.cell? ⟨gb1035, 1, none⟩ = some (.slice Ao45 t1028.length co45) := (zK BK1035.out 1).trans rfl
                  have hfz75_0 := zJ BK1035.out 0
                  have hfz75_1 := zJ BK1035.out 1
                  go_wp2_with (first | ((with_reducible refine gate_builtin (b := .append) (xs := #[.tmp 98, .tmp 100]) rfl ?_); (try (refine gate_guard (by rfl) ?_; dsimp only)); at_builtin; refine Kd.S_append k131 (w0 := w) w.heap.size rfl (.tmp 98) (.tmp 100) 63 131 (.agg #[(.int .i64 0), (.slice none 0 0)]) 32 rfl Try.underlying63 info131 rfl (by decide) (by omega) (.slice Ao38 x5_3.length co38) x5_3 (⟨t1027, t1028⟩ : S131) [.int .i64 t1027, .slice Ao45 t1028.length co45] (fun k_ => k_ ≠ gb1035) (fun k_ => some k_ = (.slice Ao45 t1028.length co45 : Value).ownBlock) rfl rfl ?aP (fun k_ hk_ => ((zP (ok' := fun k_ => ((fun k_ => k_ ≠ gb1035)) k_ ∧ some k_ ≠ (.slice Ao38 x5_3.length co38 : Value).ownBlock) (zY (Kd.R_apart' (HO_1036001.out) (Kd.S_typed HO_5.out) (by decide)) BK1035.out (by decide)) (fun k_ hk => ⟨hk.2, hk.1.2⟩))).1 k_ hk_.symm) ?aF ?aO ?aB ?aS ?aL ?_; (case aP => exact k131_mkM _ _ _ (⟨t1027, t1028⟩ : S131) (zP (Kd.R_tight rfl (zP (ok' := fun k_ => ((fun k_ => k_ ≠ gb1035)) k_ ∧ some k_ ≠ (.slice Ao38 x5_3.length co38 : Value).ownBlock) (zY (Kd.R_apart' (HO_1036001.out) (Kd.S_typed HO_5.out) (by decide)) BK1035.out (by decide)) (fun k_ hk => ⟨hk.2, hk.1.2⟩))) (fun _ h_ => h_))); (case aB => exact (by repeat (first | (with_reducible first | exact HB.out | apply zC | apply zB | apply zF | refine zE ?_ GE1020.out | refine zE ?_ GE1035.out | refine zE ?_ GE1036.out) | exact HB.out))); (case aF => exact (fun k_ hk => Kd.freshB (g := gb1035) (o := .cells #[.int .i64 t1027, .slice Ao45 t1028.length co45] 131 (0, 0)) (by (with_reducible repeat (first | refine zG ?_ _ | refine zH ?_ | refine zD ?_ _)); exact BK1035.out) k_ hk)); (case aO => exact (by (with_reducible repeat (first | apply yE | apply yF | apply yG)); exact yH HO_5.out (fun k_ hk => ⟨hk.2, fun e_ => hk.1 e_⟩))); (case aS => exact (zL (by repeat (first | (with_reducible first | exact HB.out | apply zC | apply zB | apply zF | refine zE ?_ GE1020.out | refine zE ?_ GE1035.out | refine zE ?_ GE1036.out) | exact HB.out)))); (case aL => have := LMc71.out; omega); intro v1042 w76 ho hb hg hat; rw [← Ny1041.out] at ho; have n0_ := zA (blk_grown (g := gb1020) (o := .cells #[.int .i64 x1021000_3, .int .i64 x1021001_3] 65 (0, 0)) (by (with_reducible repeat (first | refine zG ?_ _ | refine zH ?_ | refine zD ?_ _)); exact BK1020.out) hg (Kd.S_ne HO_5.out BK1020.out (by decide))); have n1_ := zA (blk_grown (g := gb1035) (o := .cells #[.int .i64 t1027, .slice Ao45 t1028.length co45] 131 (0, 0)) (by (with_reducible repeat (first | refine zG ?_ _ | refine zH ?_ | refine zD ?_ _)); exact BK1035.out) hg (Kd.S_away HO_5.out (fun _ hk => hk.2))); have n2_ := zA (blk_grown (g := gb1036) (o := .cells #[.int .i64 t1032, .int .i64 t1033] 65 (0, 0)) (by (with_reducible repeat (first | refine zG ?_ _ | refine zH ?_ | refine zD ?_ _)); exact BK1036.out) hg (Kd.S_ne HO_5.out BK1036.out (by decide))); have n3_ := zA (hb); have n4_ := zA (ho); clear BK1020; clear BK1035; clear BK1036; clear HB; clear HO_5; clear HO_1036001; have BK1020 := n0_; have BK1035 := n1_; have BK1036 := n2_; have HB := n3_; have HO1043 := n4_; clear n0_ n1_ n2_ n3_ n4_; clear ho hb hg hat; have hcz77_0 : w76.cell? ⟨gb1035, 0, none⟩ = some (.int .i64 t1027) := (zK BK1035.out 0).trans rfl; have hcz77_1 : w76.cell? ⟨gb1035, 1, none⟩ = some (.slice Ao45 t1028.length co45) := (zK BK1035.out 1).trans rfl; have hfz77_0 := zJ BK1035.out 0; have hfz77_1 := zJ BK1035.out 1) | ((with_reducible refine gate_callee (f := 132) rfl ?_); refine goesL_ (some 104) rfl rfl Try.func132 (by kernel_rfl) rfl #[.int .i64 t1027] rfl (by (try simp only [zU, zV, zW]); first | done | rfl | (simp only [zR, zQ]; rfl)) ?_; (with_reducible refine (spec_l02Kind.calls t1027 t1044 _ A72.out).mono ?_); rintro e w' ⟨rfl, ⟨nd, rfl⟩⟩; refine ⟨_, rfl, ?_⟩))
                  go_roundg kj36
                  case measure => have := HJ6.out; have := HJ15.out; have := HK3.out; have := HJ36.out; omega
                  case rel => exact ⟨(y1041), (t1031), (t1044), (x1021000_3), (x1021001_3), (by first | rfl | (simp; done) | (simp [*]; done)), (by first | rfl | (simp; done) | (simp [*]; done)), H', ⟨by have := HJ6.out; have := HJ15.out; have := HK3.out; have := HJ36.out; omega⟩, ⟨by (with_reducible repeat (first | apply yE | apply yF | apply yG)); exact yH HO1043.out (fun _ hk => trivial)⟩, ⟨by (with_reducible repeat (first | refine zG ?_ _ | refine zH ?_ | refine zD ?_ _)); exact BK1020.out⟩, ⟨by repeat (first | (with_reducible first | exact HB.out | apply zC | apply zB | apply zF | refine zE ?_ GE1020.out | refine zE ?_ GE1035.out | refine zE ?_ GE1036.out) | exact HB.out)⟩⟩
                 ·rw [if_neg c71] at H
                  exact absurd H (by simp)
           ·rw [if_neg c36] at H
            have c36b0 : (t1032 == 0) = false := beq_eq_false_iff_ne.mpr c36
            have c36b1 : (t1032 != 0) = true := bne_iff_ne.mpr c36
            simp only [Option.some.injEq, Prod.mk.injEq] at H
            obtain ⟨rfl, rfl, rfl, rfl⟩ := H
            obtain ⟨Ao78, co78, eo78⟩ := Kd.S_slice HO_5.out
            subst eo78
            try go_wp2_with (first | ((with_reducible refine gate_callee (f := 131) rfl ?_); refine goesL_ (some 58) rfl rfl Try.func131 (by kernel_rfl) rfl #[.slice A0 l0.length c0, .int .i64 x6_3, .int .i64 x7_3, .bool ((x5_3.length : Int) == 300)] rfl (by (try simp only [zU, zV, zW]); first | done | rfl | (simp only [zR, zQ]; rfl)) ?_; (with_reducible refine (spec_l02Next.calls k3 _ _ l0 x6_3 x7_3 ((x5_3.length : Int) == 300) t1027 t1028 t1031 t1032 t1033 t1034 _ ?side1 ?side2 A23.out).mono ?_); (case side1 => repeat (first | exact (Kd.C_below HR0.out HB.out) | (with_reducible refine yN ?_ _) | (with_reducible refine yL ?_ _) | (with_reducible refine yM ?_))); (case side2 => exact HC0.out); rintro e w79 ⟨v1029, rfl, ho0, hb⟩; refine ⟨_, rfl, ?_⟩; have n0_ := zA (Kd.S_elder' (by (with_reducible repeat (first | apply yE | apply yF | apply yG)); exact HO_5.out) (Kd.R_base ho0) hb); have n1_ := zA (Kd.R_lower ho0 (zL (by repeat (first | (with_reducible first | exact HB.out | apply zC | apply zB | apply zF | refine zE ?_ GE1020.out) | exact HB.out)))); have n2_ := zA (blk_below (g := gb1020) (o := .cells #[.int .i64 x1021000_3, .int .i64 x1021001_3] 65 (0, 0)) (by (with_reducible repeat (first | refine zG ?_ _ | refine zH ?_ | refine zD ?_ _)); exact BK1020.out) hb); have n3_ := zA (below_step (by repeat (first | (with_reducible first | exact HB.out | apply zC | apply zB | apply zF | refine zE ?_ GE1020.out) | exact HB.out)) hb); clear HO_5; clear BK1020; clear HB; have HO_5 := n0_; have HO1030 := n1_; have BK1020 := n2_; have HB := n3_; clear n0_ n1_ n2_ n3_; (try clear hb); (try clear hb2); (try clear hk); (try clear hi); (try clear ho0)) | ((with_reducible refine gate_dst (N := 8) rfl ?_); (try (refine gate_guard (by rfl) ?_; dsimp only)); refine box_event ?hg (N := 8) ?hd (cs := #[.int .i64 0, .slice none 0 0]) (t := 131) ?hr ?_; (case hd => rfl); (case hg => rfl); (case hr => first | (go_simp; done) | (go_simp; rfl)); intro gb1035 hg w80 hbox hb; have n0_ := zA (Kd.S_below (Kd.S_elderB (by (with_reducible repeat (first | apply yE | apply yF | apply yG)); exact HO_5.out) gb1035 (Nat.le_of_eq hg.symm)) hb); have n1_ := zA (Kd.R_below (by (with_reducible repeat (first | apply zN | apply zM | apply zO)); exact HO1030.out) hb); have n2_ := zA (blk_below (g := gb1020) (o := .cells #[.int .i64 x1021000_3, .int .i64 x1021001_3] 65 (0, 0)) (by (with_reducible repeat (first | refine zG ?_ _ | refine zH ?_ | refine zD ?_ _)); exact BK1020.out) hb); have n3_ := zA (below_step (by repeat (first | (with_reducible first | exact HB.out | apply zC | apply zB | apply zF | refine zE ?_ GE1020.out) | exact HB.out)) hb); have n4_ := zA (hbox); have n5_ := zA ((by rw [hg]; exact (zL (by repeat (first | (with_reducible first | exact HB.out | apply zC | apply zB | apply zF | refine zE ?_ GE1020.out) | exact HB.out))) : w.heap.size ≤ gb1035)); have n6_ := zA ((by rw [hg]; exact (zL (by repeat (first | (with_reducible first | exact HB.out | apply zC | apply zB | apply zF | refine zE ?_ GE1020.out) | exact HB.out))) : w.heap.size ≤ gb1035)); have n7_ := zA ((by rw [hg]; exact Nat.ne_of_lt (blk_lt (g := gb1020) (o := .cells #[.int .i64 x1021000_3, .int .i64 x1021001_3] 65 (0, 0)) (by (with_reducible repeat (first | refine zG ?_ _ | refine zH ?_ | refine zD ?_ _)); exact BK1020.out)) : gb1020 ≠ gb1035)); have n8_ := zA ((by rw [hg]; exact Nat.ne_of_gt (blk_lt (g := gb1020) (o := .cells #[.int .i64 x1021000_3, .int .i64 x1021001_3] 65 (0, 0)) (by (with_reducible repeat (first | refine zG ?_ _ | refine zH ?_ | refine zD ?_ _)); exact BK1020.out)) : gb1035 ≠ gb1020)); clear HO_5; clear HO1030; clear BK1020; clear HB; have HO_5 := n0_; have HO1030 := n1_; have BK1020 := n2_; have HB := n3_; have BK1035 := n4_; have GW1035 := n5_; have GE1035 := n6_; have NB1020_1035 := n7_; have NB1035_1020 := n8_; clear n0_ n1_ n2_ n3_ n4_ n5_ n6_ n7_ n8_; clear hb hbox hg) | ((with_reducible refine gate_dst (N := 10) rfl ?_); (try (refine gate_guard (by rfl) ?_; dsimp only)); refine box_event ?hg (N := 10) ?hd (cs := #[.int .i64 0, .int .i64 0]) (t := 65) ?hr ?_; (case hd => rfl); (case hg => rfl); (case hr => first | (go_simp; done) | (go_simp; rfl)); intro gb1036 hg w81 hbox hb; have n0_ := zA (Kd.S_below (by (with_reducible repeat (first | apply yE | apply yF | apply yG)); exact HO_5.out) hb); have n1_ := zA (Kd.R_below (by (with_reducible repeat (first | apply zN | apply zM | apply zO)); exact HO1030.out) hb); have n2_ := zA (blk_below (g := gb1020) (o := .cells #[.int .i64 x1021000_3, .int .i64 x1021001_3] 65 (0, 0)) (by (with_reducible repeat (first | refine zG ?_ _ | refine zH ?_ | refine zD ?_ _)); exact BK1020.out) hb); have n3_ := zA (blk_below (g := gb1035) (o := .cells #[.int .i64 0, .slice none 0 0] 131 (0, 0)) (by (with_reducible repeat (first | refine zG ?_ _ | refine zH ?_ | refine zD ?_ _)); exact BK1035.out) hb); have n4_ := zA (below_step (by repeat (first | (with_reducible first | exact HB.out | apply zC | apply zB | apply zF | refine zE ?_ GE1020.out | refine zE ?_ GE1035.out) | exact HB.out)) hb); have n5_ := zA (hbox); have n6_ := zA ((by rw [hg]; exact (zL (by repeat (first | (with_reducible first | exact HB.out | apply zC | apply zB | apply zF | refine zE ?_ GE1020.out | refine zE ?_ GE1035.out) | exact HB.out))) : w.heap.size ≤ gb1036)); have n7_ := zA ((by rw [hg]; exact (zL (by repeat (first | (with_reducible first | exact HB.out | apply zC | apply zB | apply zF | refine zE ?_ GE1020.out | refine zE ?_ GE1035.out) | exact HB.out))) : w.heap.size ≤ gb1036)); have n8_ := zA ((by rw [hg]; exact Nat.ne_of_lt (blk_lt (g := gb1020) (o := .cells #[.int .i64 x1021000_3, .int .i64 x1021001_3] 65 (0, 0)) (by (with_reducible repeat (first | refine zG ?_ _ | refine zH ?_ | refine zD ?_ _)); exact BK1020.out)) : gb1020 ≠ gb1036)); have n9_ := zA ((by rw [hg]; exact Nat.ne_of_gt (blk_lt (g := gb1020) (o := .cells #[.int .i64 x1021000_3, .int .i64 x1021001_3] 65 (0, 0)) (by (with_reducible repeat (first | refine zG ?_ _ | refine zH ?_ | refine zD ?_ _)); exact BK1020.out)) : gb1036 ≠ gb1020)); have n10_ := zA ((by rw [hg]; exact Nat.ne_of_lt (blk_lt (g := gb1035) (o := .cells #[.int .i64 0, .slice none 0 0] 131 (0, 0)) (by (with_reducible repeat (first | refine zG ?_ _ | refine zH ?_ | refine zD ?_ _)); exact BK1035.out)) : gb1035 ≠ gb1036)); have n11_ := zA ((by rw [hg]; exact Nat.ne_of_gt (blk_lt (g := gb1035) (o := .cells #[.int .i64 0, .slice none 0 0] 131 (0, 0)) (by (with_reducible repeat (first | refine zG ?_ _ | refine zH ?_ | refine zD ?_ _)); exact BK1035.out)) : gb1036 ≠ gb1035)); clear HO_5; clear HO1030; clear BK1020; clear BK1035; clear HB; have HO_5 := n0_; have HO1030 := n1_; have BK1020 := n2_; have BK1035 := n3_; have HB := n4_; have BK1036 := n5_; have GW1036 := n6_; have GE1036 := n7_; have NB1020_1036 := n8_; have NB1036_1020 := n9_; have NB1035_1036 := n10_; have NB1036_1035 := n11_; clear n0_ n1_ n2_ n3_ n4_ n5_ n6_ n7_ n8_ n9_ n10_ n11_; clear hb hbox hg; have hnb82 := NB1035_1020.out; have hnc82 := NB1020_1035.out; have hnb83 := NB1035_1036.out; have hnc83 := NB1036_1035.out; have hcz84_0 : w81.cell? ⟨gb1035, 0, none⟩ = some (.int .i64 0) := (zK BK1035.out 0).trans rfl; have hcz84_1 : w81.cell? ⟨gb1035, 1, none⟩ = some (.slice none 0 0) := (zK BK1035.out 1).trans rfl; have hfz84_0 := zJ BK1035.out 0; have hfz84_1 := zJ BK1035.out 1; obtain ⟨Ao85, co85, eo85⟩ := Kd.R_slice HO1030.out; subst eo85; have hnb86 := NB1036_1020.out; have hnc86 := NB1020_1036.out; have hcz87_0 : w81.cell? ⟨gb1036, 0, none⟩ = some (.int .i64 0) := (zK BK1036.out 0).trans rfl; have hcz87_1 : w81.cell? ⟨gb1036, 1, none⟩ = some (.int .i64 0) := (zK BK1036.out 1).trans rfl; have hfz87_0 := zJ BK1036.out 0; have hfz87_1 := zJ BK1036.out 1))
            have n0_ : Aside0 (Kd.S k131 131 ((((w81.setCell ⟨gb1035, 0, none⟩ (.int .i64 t1027)).setCell ⟨gb1035, 1, none⟩ (.slice Ao85 t1028.length co85)).setCell ⟨gb1036, 0, none⟩ (.int .i64 t1032)).setCell ⟨gb1036, 1, none⟩ (.int .i64 t1033)) w.heap.size (fun k_ => some k_ ≠ (.slice Ao85 t1028.length co85 : Value).ownBlock ∧ k_ ≠ gb1035) (.slice Ao78 x5_3.length co78) x5_3) := ⟨by (with_reducible repeat (first | apply yE | apply yF | apply yG)); exact yH (yI (p := ⟨gb1036, 1, none⟩) (yI (p := ⟨gb1036, 0, none⟩) (yI (p := ⟨gb1035, 1, none⟩) (yI (p := ⟨gb1035, 0, none⟩) (Kd.S_types (yH HO_5.out (fun k_ hk => (⟨hk, hk.2⟩ : _ ∧ k_ ≠ gb1035))) BK1036.out (by decide)) (fun _ hk => hk.1.2) (.int .i64 t1027)) (fun _ hk => hk.1.2) (.slice Ao85 t1028.length co85)) (fun _ hk => hk.2) (.int .i64 t1032)) (fun _ hk => hk.2) (.int .i64 t1033)) (fun _ hk => ⟨hk.1.1.1.2, hk.1.1.2⟩)⟩
            have n1_ : Aside0 (Kd.R (Kd.int .u8) 5 ((((w81.setCell ⟨gb1035, 0, none⟩ (.int .i64 t1027)).setCell ⟨gb1035, 1, none⟩ (.slice Ao85 t1028.length co85)).setCell ⟨gb1036, 0, none⟩ (.int .i64 t1032)).setCell ⟨gb1036, 1, none⟩ (.int .i64 t1033)) w.heap.size (fun _ => True) (.slice Ao85 t1028.length co85) t1028) := ⟨by (with_reducible repeat (first | apply zN | apply zM | apply zO)); exact zP (Kd.R_far (p := ⟨gb1036, 1, none⟩) (Kd.R_far (p := ⟨gb1036, 0, none⟩) (Kd.R_far (p := ⟨gb1035, 1, none⟩) (Kd.R_far (p := ⟨gb1035, 0, none⟩) (zY (zY HO1030.out BK1035.out (by decide)) BK1036.out (by decide)) (fun _ hk => hk.1.2) (.int .i64 t1027)) (fun _ hk => hk.1.2) (.slice Ao85 t1028.length co85)) (fun _ hk => hk.2) (.int .i64 t1032)) (fun _ hk => hk.2) (.int .i64 t1033)) (fun _ hk => trivial)⟩
            have n2_ : Aside0 (((((w81.setCell ⟨gb1035, 0, none⟩ (.int .i64 t1027)).setCell ⟨gb1035, 1, none⟩ (.slice Ao85 t1028.length co85)).setCell ⟨gb1036, 0, none⟩ (.int .i64 t1032)).setCell ⟨gb1036, 1, none⟩ (.int .i64 t1033)).heap[gb1020]? = some (.cells #[.int .i64 x1021000_3, .int .i64 x1021001_3] 65 (0, 0))) := ⟨by (with_reducible repeat (first | refine zG ?_ _ | refine zH ?_ | refine zD ?_ _)); refine blk_far ?_ NB1020_1036.out _; (with_reducible repeat (first | refine zG ?_ _ | refine zH ?_ | refine zD ?_ _)); refine blk_far ?_ NB1020_1036.out _; (with_reducible repeat (first | refine zG ?_ _ | refine zH ?_ | refine zD ?_ _)); refine blk_far ?_ NB1020_1035.out _; (with_reducible repeat (first | refine zG ?_ _ | refine zH ?_ | refine zD ?_ _)); refine blk_far ?_ NB1020_1035.out _; (with_reducible repeat (first | refine zG ?_ _ | refine zH ?_ | refine zD ?_ _)); exact BK1020.out⟩
            have n3_ : Aside0 (((((w81.setCell ⟨gb1035, 0, none⟩ (.int .i64 t1027)).setCell ⟨gb1035, 1, none⟩ (.slice Ao85 t1028.length co85)).setCell ⟨gb1036, 0, none⟩ (.int .i64 t1032)).setCell ⟨gb1036, 1, none⟩ (.int .i64 t1033)).heap[gb1035]? = some (.cells #[.int .i64 t1027, .slice Ao85 t1028.length co85] 131 (0, 0))) := ⟨by (with_reducible repeat (first | refine zG ?_ _ | refine zH ?_ | refine zD ?_ _)); refine blk_far ?_ NB1035_1036.out _; (with_reducible repeat (first | refine zG ?_ _ | refine zH ?_ | refine zD ?_ _)); refine blk_far ?_ NB1035_1036.out _; (with_reducible repeat (first | refine zG ?_ _ | refine zH ?_ | refine zD ?_ _)); refine blk_put (cs := #[.int .i64 t1027, .slice none 0 0]) ?_ 1 _ rfl; (with_reducible repeat (first | refine zG ?_ _ | refine zH ?_ | refine zD ?_ _)); refine blk_put (cs := #[.int .i64 0, .slice none 0 0]) ?_ 0 _ rfl; (with_reducible repeat (first | refine zG ?_ _ | refine zH ?_ | refine zD ?_ _)); exact BK1035.out⟩
            have n4_ : Aside0 (((((w81.setCell ⟨gb1035, 0, none⟩ (.int .i64 t1027)).setCell ⟨gb1035, 1, none⟩ (.slice Ao85 t1028.length co85)).setCell ⟨gb1036, 0, none⟩ (.int .i64 t1032)).setCell ⟨gb1036, 1, none⟩ (.int .i64 t1033)).heap[gb1036]? = some (.cells #[.int .i64 t1032, .int .i64 t1033] 65 (0, 0))) := ⟨by (with_reducible repeat (first | refine zG ?_ _ | refine zH ?_ | refine zD ?_ _)); refine blk_put (cs := #[.int .i64 t1032, .int .i64 0]) ?_ 1 _ rfl; (with_reducible repeat (first | refine zG ?_ _ | refine zH ?_ | refine zD ?_ _)); refine blk_put (cs := #[.int .i64 0, .int .i64 0]) ?_ 0 _ rfl; (with_reducible repeat (first | refine zG ?_ _ | refine zH ?_ | refine zD ?_ _)); refine blk_far ?_ NB1036_1035.out _; (with_reducible repeat (first | refine zG ?_ _ | refine zH ?_ | refine zD ?_ _)); refine blk_far ?_ NB1036_1035.out _; (with_reducible repeat (first | refine zG ?_ _ | refine zH ?_ | refine zD ?_ _)); exact BK1036.out⟩
            have n5_ : Aside0 (Below w.heap.size w ((((w81.setCell ⟨gb1035, 0, none⟩ (.int .i64 t1027)).setCell ⟨gb1035, 1, none⟩ (.slice Ao85 t1028.length co85)).setCell ⟨gb1036, 0, none⟩ (.int .i64 t1032)).setCell ⟨gb1036, 1, none⟩ (.int .i64 t1033))) := ⟨by repeat (first | (with_reducible first | exact HB.out | apply zC | apply zB | apply zF | refine zE ?_ GE1020.out | refine zE ?_ GE1035.out | refine zE ?_ GE1036.out) | exact HB.out)⟩
            (try clear HO_5)
            (try clear HO1030)
            (try clear BK1020)
            (try clear BK1035)
            (try clear BK1036)
            (try clear HB)
            generalize ((((w81.setCell ⟨gb1035, 0, none⟩ (.int .i64 t1027)).setCell ⟨gb1035, 1, none⟩ (.slice Ao85 t1028.length co85)).setCell ⟨gb1036, 0, none⟩ (.int .i64 t1032)).setCell ⟨gb1036, 1, none⟩ (.int .i64 t1033)) = w88 at n0_ n1_ n2_ n3_ n4_ n5_ ⊢
            have HO_5 := n0_
            have HO1030 := n1_
            have BK1020 := n2_
            have BK1035 := n3_
            have BK1036 := n4_
            have HB := n5_
            clear n0_ n1_ n2_ n3_ n4_ n5_
            have n0_ := zA (yG HO_5.out)
            have n1_ := zA (zO HO1030.out)
            have n2_ := zA (zH BK1020.out)
            have n3_ := zA (zH BK1035.out)
            have n4_ := zA (zH BK1036.out)
            have n5_ := zA (zF HB.out)
            clear HO_5
            clear HO1030
            clear BK1020
            clear BK1035
            clear BK1036
            clear HB
            have HO_5 := n0_
            have HO1030 := n1_
            have BK1020 := n2_
            have BK1035 := n3_
            have BK1036 := n4_
            have HB := n5_
            clear n0_ n1_ n2_ n3_ n4_ n5_
            refine start_ (n := 5) (S := fun w' => w'.cell? ⟨gb1036, 0, none⟩ = some (.int .i64 t1032) ∧ w'.cell? ⟨gb1036, 1, none⟩ = some (.int .i64 t1033)) (ds := []) #[false, false, false, false, false] (by kernel_rfl) rfl rfl ⟨(zK BK1036.out 0).trans rfl, (zK BK1036.out 1).trans rfl⟩ (fun hHeld => ?_)
            generalize w88.drew = w89 at HO_5 HO1030 BK1020 BK1035 BK1036 HB hHeld ⊢
            refine pure_ (i := 0) (N := some 71) (v := ?_) (a' := ?_) #[true, false, false, false, false] rfl rfl (by kernel_rfl) (fun _ _ _ h => h) (Or.inl ⟨by rfl, ?_⟩) ?_ ?_
            rotate_left
            ·intro w'
             go_simp
             with_reducible rfl
            rotate_left
            ·simp only [Act.put, List.setIfInBounds_toArray, List.set_cons_zero, List.set_cons_succ, i64_w, i32_w]
             rfl
            refine pure_ (i := 2) (N := some 2) (v := ?_) (a' := ?_) #[true, false, true, false, false] rfl rfl (by kernel_rfl) (fun _ _ _ h => h) (Or.inl ⟨by rfl, ?_⟩) ?_ ?_
            rotate_left
            ·intro w'
             go_simp
             with_reducible rfl
            rotate_left
            ·simp only [Act.put, List.setIfInBounds_toArray, List.set_cons_zero, List.set_cons_succ, i64_w, i32_w]
             rfl
            refine pure_ (i := 3) (N := some 3) (v := ?_) (a' := ?_) #[true, false, true, true, false] rfl rfl (by kernel_rfl) (fun _ _ _ h => h) (Or.inl ⟨by rfl, ?_⟩) ?_ ?_
            rotate_left
            ·intro w'
             go_simp
             with_reducible rfl
            rotate_left
            ·simp only [Act.put, List.setIfInBounds_toArray, List.set_cons_zero, List.set_cons_succ, i64_w, i32_w]
             rfl
            refine take_ (i := 1) (N := some 72) (v := ?_) (a' := ?_) #[true, true, true, true, false] rfl rfl (by kernel_rfl) (fun _ _ _ h => h) (Or.inl ⟨by rfl, ?_⟩) hHeld ?_ ?_
            rotate_left
            ·rintro w' ⟨s0, s1⟩
             go_simp
             with_reducible rfl
            rotate_left
            ·simp only [Act.put, List.setIfInBounds_toArray, List.set_cons_zero, List.set_cons_succ, i64_w, i32_w]
             rfl
            refine one_ (i := 4) (N := none) #[true, true, true, true, true] rfl rfl (by kernel_rfl) (by decide) (fun K hK => ?_)
            have hs90 : w89.cell? ⟨gb1020, 0, none⟩ = some (.int .i64 x1021000_3) := (zK BK1020.out 0).trans rfl
            have hfs90 := zJ BK1020.out 0
            have hns90_1 := NB1035_1020.out
            have hns90_2 := NB1036_1020.out
            have hms90_1 := NB1020_1035.out
            have hms90_2 := NB1020_1036.out
            have hs91 : w89.cell? ⟨gb1020, 1, none⟩ = some (.int .i64 x1021001_3) := (zK BK1020.out 1).trans rfl
            have hfs91 := zJ BK1020.out 1
            have hns91_1 := NB1035_1020.out
            have hns91_2 := NB1036_1020.out
            have hms91_1 := NB1020_1035.out
            have hms91_2 := NB1020_1036.out
            refine skip_ (w1 := ?_) (by rfl) rfl ?_ ?_
            rotate_left
            ·go_simp
             rfl
            refine hK.out _ _ ⟨((cell_far (p := ⟨gb1020, _, none⟩) NB1036_1020.out _).trans (((cell_far (p := ⟨gb1020, _, none⟩) NB1036_1020.out _).trans (hHeld.1)))), ((cell_far (p := ⟨gb1020, _, none⟩) NB1036_1020.out _).trans (((cell_far (p := ⟨gb1020, _, none⟩) NB1036_1020.out _).trans (hHeld.2))))⟩ (fun hHeld => ?_)
            clear hK K
            refine done_ (by kernel_rfl) ?_
            try go_wp2
            refine bodyPost_ret (results_list (rs := [.tmp 2, .tmp 3, .cell 4 65]) rfl (by simp) (.tmp (.tmp (.cell gb1020 65 #[.int .i64 t1032, .int .i64 t1033] (0, 0) _ rfl (by (with_reducible repeat (first | refine zG ?_ _ | refine zH ?_ | refine zD ?_ _)); refine blk_put (cs := #[.int .i64 t1032, .int .i64 x1021001_3]) ?_ 1 _ rfl; (with_reducible repeat (first | refine zG ?_ _ | refine zH ?_ | refine zD ?_ _)); refine blk_put (cs := #[.int .i64 x1021000_3, .int .i64 x1021001_3]) ?_ 0 _ rfl; (with_reducible repeat (first | refine zG ?_ _ | refine zH ?_ | refine zD ?_ _)); exact BK1020.out) Try.underlying65 rfl (by kernel_rfl) .nil)))) rfl ?_
            exact ⟨_, by first | rfl | (simp [errW_none, errW_some] <;> rfl) | (simp [*, errW_none, errW_some] <;> rfl), by (with_reducible repeat (first | apply yE | apply yF | apply yG)); exact yH (yI (p := ⟨gb1020, 1, none⟩) (yI (p := ⟨gb1020, 0, none⟩) (Kd.S_types HO_5.out BK1020.out (by decide)) (fun _ hk => hk.2) (.int .i64 t1032)) (fun _ hk => hk.2) (.int .i64 t1033)) (fun _ hk => trivial), by repeat (first | (with_reducible first | exact HB.out | apply zC | apply zB | apply zF | refine zE ?_ GE1020.out | refine zE ?_ GE1035.out | refine zE ?_ GE1036.out) | exact HB.out)⟩
theorem nxt_shape (b : List Int) (at_ : Nat) (l : List S131) (hl : l.length ≤ 300) (hb : ∀ x ∈ b, 0 ≤ x ∧ x ≤ 255) :
  (∃ c p, nxt b at_ l = (false, c, p, at_, l) ∧ c ≠ 0) ∨ nxt b at_ l = (true, 0, 0, at_ + 2, l) ∨
   (∃ m d n2, nxt b at_ l = (false, 0, 0, n2, l ++ [⟨m, d⟩]) ∧ 0 ≤ m ∧ m ≤ 247 ∧ l.length < 300 ∧ (m = 0 → b.drop n2 = [] ∨ ∃ t, b.drop n2 = 255 :: t)) := by
 have hm0' : 0 ≤ markM (b.drop at_) := by
  unfold markM
  split
  ·exact Int.le_refl _
  ·have e1 := rd_drop b at_ 1
   rw [show ((1 : Nat) : Int) = 1 from rfl] at e1
   rw [e1]
   by_cases h : at_ + 1 < b.length
   ·rw [rd_nat b _ h]; exact (hb _ (List.getElem_mem h)).1
   ·have : rd b ((at_ + 1 : Nat) : Int) = 0 := by unfold rd; rw [Int.toNat_natCast]; simp [List.getD, List.getElem?_eq_none (show b.length ≤ at_ + 1 by omega)]
    rw [this]; exact Int.le_refl _
 unfold nxt
 by_cases he : b.drop at_ = [] ∨ b.drop at_ = [255]
 ·rw [if_pos he]; exact .inl ⟨3, _, rfl, by decide⟩
 rw [if_neg he]
 by_cases h254 : markM (b.drop at_) = 254
 ·rw [if_pos h254]; exact .inr (.inl rfl)
 rw [if_neg h254]
 by_cases hbd : badM (markM (b.drop at_)) l = true
 ·rw [if_pos hbd]; exact .inl ⟨4, _, rfl, by decide⟩
 rw [if_neg hbd]
 have h247 : markM (b.drop at_) ≤ 247 := by
  have : badM (markM (b.drop at_)) l = false := by simpa using hbd
  unfold badM at this
  simp at this
  omega
 by_cases h3 : l.length = 300
 ·rw [if_pos h3]; exact .inl ⟨6, _, rfl, by decide⟩
 rw [if_neg h3]
 by_cases hm0 : markM (b.drop at_) = 0
 ·rw [if_pos hm0]
  by_cases h20 : 20000 < (un (b.drop at_)).1.length
  ·rw [if_pos h20]; exact .inl ⟨5, _, rfl, by decide⟩
  ·rw [if_neg h20]
   refine .inr (.inr ⟨0, _, _, rfl, by decide, by decide, by omega, fun _ => ?_⟩)
   have := un_end (b.drop at_)
   rw [List.drop_drop] at this
   exact this
 rw [if_neg hm0]
 by_cases hi : isRest (markM (b.drop at_)) = true
 ·rw [if_pos hi]; exact .inr (.inr ⟨_, _, _, rfl, hm0', h247, by omega, fun h => absurd h hm0⟩)
 rw [if_neg hi]
 by_cases h4 : (b.drop at_).length < 4
 ·rw [if_pos h4]; exact .inl ⟨3, _, rfl, by decide⟩
 rw [if_neg h4]
 by_cases h20 : 20000 < lenM (b.drop at_)
 ·rw [if_pos h20]; exact .inl ⟨5, _, rfl, by decide⟩
 rw [if_neg h20]
 by_cases h4n : ((b.drop at_).length : Int) < 4 + lenM (b.drop at_)
 ·rw [if_pos h4n]; exact .inl ⟨3, _, rfl, by decide⟩
 rw [if_neg h4n]
 exact .inr (.inr ⟨_, _, _, rfl, hm0', h247, by omega, fun h => absurd h hm0⟩)
theorem kindL_snoc (l : List S131) (s : S131) : kindL (l ++ [s]) = kindM s.f0 := by unfold kindL; simp
theorem kindM_three {m : Int} (h : kindM m = 3) : m = 0 := by
 unfold kindM at h
 split at h
 ·assumption
 ·split at h
  ·cases h
  ·split at h <;> cases h
theorem marks_snoc {l : List S131} (h : MarksOk l) (m : Int) (d : List Int) (h0 : 0 ≤ m) (h1 : m ≤ 247) : MarksOk (l ++ [⟨m, d⟩]) := by
 intro s hs
 rcases List.mem_append.1 hs with hs | hs
 ·exact h s hs
 ·rw [List.mem_singleton.1 hs]; exact ⟨h0, h1⟩
theorem rest_three {l : List S131} (h : MarksOk l) (hr : mayRestM l = true) : kindL l = 3 := by
 rw [rest_kind h] at hr
 simpa [fitsM] using hr
theorem soFar_loop (b : List Int) (hb : ∀ x ∈ b, 0 ≤ x ∧ x ≤ 255) (hlen : b.length ≤ 60000) : ∀ (n at_ : Nat) (l : List S131), at_ ≤ b.length → l.length ≤ 300 → MarksOk l → b.length < at_ + n → ¬ (kindL l = 3 ∧ b.length - at_ < 2) →
  Ev (fun k => spec_SegsSoFar.l0 k b l (at_ : Int) (kindL l)) (sfI b n at_ l) := by
 intro n
 induction n with
 | zero => intro at_ l h1 _ _ h4; omega
 | succ n ih =>
  intro at_ l hat hl hM hfu hok
  obtain ⟨f1, f2, f3⟩ := nxt_facts b at_ l hat hl
  refine Ev.step (fun _ => by rw [spec_SegsSoFar.l0]) (Ev.bind (next_spec b at_ l hat hlen hb hM) ?_)
  unfold nxtS sfI
  rcases nxt_shape b at_ l hl hb with ⟨c, p, hn, hc⟩ | hn | ⟨m, d, n2, hn, hm0, hm1, hl3, hend⟩
  ·rw [hn]
   simp only []
   rw [if_pos hc]
   by_cases h3 : c = 3
   ·subst h3
    rw [if_pos rfl, if_neg (fun h => hok ⟨rest_three hM h.1, h.2⟩)]
    exact Ev.ip rfl (Ev.now _)
   ·rw [if_neg h3, if_pos hc]
    exact Ev.ng h3 (Ev.ng hc (Ev.now _))
  ·rw [hn] at f1 ⊢
   simp only [] at f1 ⊢
   rw [if_neg (by decide), if_pos trivial, if_neg (by decide), if_neg (by decide), if_pos trivial]
   refine Ev.ng (by show ¬ ((0 : Int) = 3); decide) (Ev.ip rfl (Ev.ip rfl ?_))
   refine Ev.step (fun _ => by rw [spec_SegsSoFar.j3]) ?_
   by_cases hlt : at_ + 2 < b.length
   ·rw [if_pos hlt]
    exact Ev.ip (zT (by simp only []; omega)) (Ev.now _)
   ·rw [if_neg hlt]
    exact Ev.ng (by simp only [decide_eq_true_eq]; omega) (Ev.ip rfl (Ev.now _))
  ·rw [hn] at f1 f2 f3 ⊢
   simp only [] at f1 f2 f3 ⊢
   have f4 := f3 trivial trivial
   rw [if_neg (by decide), if_neg (by decide), if_neg (by decide), if_neg (by decide), if_neg (by decide)]
   refine Ev.ng (by show ¬ ((0 : Int) = 3); decide) (Ev.ip rfl (Ev.ng (by show ¬ (false = true); decide) ?_))
   refine Ev.step (fun _ => by rw [spec_SegsSoFar.j3]) (Ev.ng (by show ¬ (false = true); decide) (Ev.ng (by simp) ?_))
   have hg : (l ++ [(⟨m, d⟩ : S131)]).getLastD z131 = ⟨m, d⟩ := by simp
   rw [hg]
   simp only []
   have hsn := kindL_snoc l ⟨m, d⟩
   have hMs := marks_snoc hM m d hm0 hm1
   by_cases hmz : m = 0
   ·refine Ev.ip hmz ?_
    rw [wrap_succ n2 (by omega)]
    by_cases hge : b.length ≤ n2 + 1
    ·refine Ev.ip (by omega) (Ev.eq (Ev.now _) ?_)
     have hr : b.drop n2 = [] ∨ b.drop n2 = [255] := by
      rcases hend hmz with h | ⟨t, h⟩
      ·exact .inl h
      ·refine .inr ?_
       have hl2 := congrArg List.length h
       simp at hl2
       have : t = [] := List.eq_nil_of_length_eq_zero (by omega)
       rw [h, this]
     cases n with
     | zero => omega
     | succ n =>
      have hx : nxt b n2 (l ++ [⟨m, d⟩]) = (false, 3, (b.length : Int), n2, l ++ [⟨m, d⟩]) := by unfold nxt; rw [if_pos hr]
      unfold sfI
      rw [hx]
      simp only []
      rw [if_pos trivial, if_pos ⟨by rw [rest_kind hMs, hsn, hmz]; rfl, by omega⟩]
      simp
    ·refine Ev.ng (by omega) (Ev.ip (by omega) (Ev.bind (Ev.c (kind_val m)) ?_))
     rw [← hsn]
     exact ih n2 _ f1 f2 hMs (by omega) (fun h => by omega)
   ·refine Ev.ng hmz (Ev.ip (by omega) (Ev.bind (Ev.c (kind_val m)) ?_))
    rw [← hsn]
    exact ih n2 _ f1 f2 hMs (by omega) (fun h => hmz (kindM_three (hsn ▸ h.1)))
theorem soFar_spec (b : List Int) (hb : ∀ x ∈ b, 0 ≤ x ∧ x ≤ 255) (hlen : b.length ≤ 1048576) : Ev (fun k => spec_SegsSoFar.f k b) (soFarM b) := by
 unfold spec_SegsSoFar.f soFarM
 refine Ev.bind (Ev.c rfl) ?_
 by_cases h1 : 60000 < b.length
 ·rw [if_pos h1]; exact Ev.ip (by omega) (Ev.now _)
 rw [if_neg h1]
 refine Ev.ng (by omega) ?_
 by_cases h0 : b.length = 0
 ·rw [if_pos (.inl h0)]
  exact Ev.ip (by omega) (Ev.step (fun _ => by rw [spec_SegsSoFar.j0]) (Ev.ip rfl (Ev.now _)))
 refine Ev.ng (by omega) ?_
 by_cases hl1 : b.length = 1
 ·refine Ev.ip (by omega) (Ev.ip (by omega) (Ev.step (fun _ => by rw [spec_SegsSoFar.j0]) ?_))
  by_cases h84 : rd b 0 = 84
  ·rw [if_pos (.inr ⟨hl1, h84⟩)]
   exact Ev.ip (by rw [h84]; rfl) (Ev.now _)
  ·rw [if_neg (fun h => h.elim h0 (fun h => h84 h.2)), if_pos (.inl (by omega))]
   exact Ev.ng (by simpa using h84) (Ev.ip (by omega) (Ev.step (fun _ => by rw [spec_SegsSoFar.j1]) (Ev.ip rfl (Ev.now _))))
 ·rw [if_neg (fun h => h.elim h0 (fun h => hl1 h.1))]
  refine Ev.ng (by omega) (Ev.step (fun _ => by rw [spec_SegsSoFar.j0]) (Ev.ng (by decide) (Ev.ng (by omega) (Ev.ip (by omega) ?_))))
  by_cases h84 : rd b 0 = 84
  ·refine Ev.ip h84 (Ev.ip (by omega) (Ev.step (fun _ => by rw [spec_SegsSoFar.j1]) ?_))
   by_cases h83 : rd b 1 = 83
   ·rw [if_neg (by rw [h84, h83]; simp; omega)]
    refine Ev.ng (by rw [h83]; decide) ?_
    have := soFar_loop b hb (by omega) (b.length + 1) 2 [] (by omega) (by simp) (fun s hs => by simp at hs) (by omega) (fun h => by simp [kindL] at h)
    exact this
   ·rw [if_pos (.inr (.inr h83))]
    exact Ev.ip (by simp [h83]) (Ev.now _)
  ·rw [if_pos (.inr (.inl h84))]
   exact Ev.ng h84 (Ev.step (fun _ => by rw [spec_SegsSoFar.j1]) (Ev.ip rfl (Ev.now _)))
end Go.Proofs.Ytcjjmfpkhhdmlaa.G


namespace Go.Proofs.Ytcjjmfpkhhdmlaa.G
open Go.RowKit Go.Proofs.YtcjjmfpkhhdmlaaW.PrintWords Go.Proofs.YtcjjmfpkhhdmlaaW.PrintLast Go.Proofs.YtcjjmfpkhhdmlaaW.PrintMore
attribute [local go_sem] max2_int min2_int max_two min_two max_three min_three max_four min_four   -- for this text's walks alone
/-- A state of type 150 at block g of W; what its slices lead to came in by w0. -/
def IsS150 (w0 W : World) (g : Nat) (f0 : List Int) (f1 : Int) (f2 : Int) : Prop := ∃ A0 c0, W.heap[g]? = some (.cells #[.slice A0 f0.length c0, .int .i64 f1, .int .i64 f2] 150 (0, 0)) ∧ w0.heap.size ≤ g ∧ Kd.C (Kd.int .u8) w0 A0 f0.length f0
theorem IsS150.grown {w0 W : World} {g : Nat} {f0 : List Int} {f1 : Int} {f2 : Int} {W1 : World} {row : Option Nat} (h : IsS150 w0 W g f0 f1 f2) (hw : W.grownBy W1 row) (hne : some g ≠ row) : IsS150 w0 W1 g f0 f1 f2 := by
 obtain ⟨A0, c0, hb, hg, hr0⟩ := h
 exact ⟨A0, c0, blk_grown hb hw hne, hg, hr0⟩
theorem IsS150.kept {w0 W : World} {g : Nat} {f0 : List Int} {f1 : Int} {f2 : Int} {W1 : World} {S : Nat → Prop} (h : IsS150 w0 W g f0 f1 f2) (hk : Kept W W1 S) (hne : ¬ S g) : IsS150 w0 W1 g f0 f1 f2 := by
 obtain ⟨A0, c0, hb, hg, hr0⟩ := h
 exact ⟨A0, c0, blk_kept hb hk hne, hg, hr0⟩
theorem IsS150.below {w0 W : World} {g : Nat} {f0 : List Int} {f1 : Int} {f2 : Int} {W1 : World} (h : IsS150 w0 W g f0 f1 f2) (hw : Below W.heap.size W W1) : IsS150 w0 W1 g f0 f1 f2 := h.grown (grown_of_below hw none) (by simp)
theorem IsS150.alloc {w0 W : World} {g : Nat} {f0 : List Int} {f1 : Int} {f2 : Int} (h : IsS150 w0 W g f0 f1 f2) (o : Obj) : IsS150 w0 (W.alloc o) g f0 f1 f2 := h.below (zC (Below.refl _ _) o)
theorem IsS150.drewN {w0 W : World} {g : Nat} {f0 : List Int} {f1 : Int} {f2 : Int} (h : IsS150 w0 W g f0 f1 f2) (m : Nat) : IsS150 w0 (W.drewN m) g f0 f1 f2 := h
theorem IsS150.drew {w0 W : World} {g : Nat} {f0 : List Int} {f1 : Int} {f2 : Int} (h : IsS150 w0 W g f0 f1 f2) : IsS150 w0 W.drew g f0 f1 f2 := h
theorem IsS150.at_ {w0 W : World} {g : Nat} {f0 : List Int} {f1 : Int} {f2 : Int} {w' : World} {m : Nat} (hq : W.drewN m = w') (h : IsS150 w0 W g f0 f1 f2) : IsS150 w0 w' g f0 f1 f2 := by subst hq; exact IsS150.drewN h m
theorem IsS150.apart {w0 W : World} {g : Nat} {f0 : List Int} {f1 : Int} {f2 : Int} {α : Type} {d : Kd α} {e : Nat} {base : Nat} {ok : Nat → Prop} {v : Value} {xs : List α} (h : IsS150 w0 W g f0 f1 f2) (ho : d.R e W base ok v xs) (ht : ∀ q, q ∈ e :: d.E → q ≠ 150) : d.R e W base (fun k => ok k ∧ k ≠ g) v xs := by
 obtain ⟨A0, c0, hb, hg, hr0⟩ := h
 exact zY ho hb ht
theorem IsS150.own_ne {w0 W : World} {g : Nat} {f0 : List Int} {f1 : Int} {f2 : Int} {α : Type} {d : Kd α} {e : Nat} {base : Nat} {ok : Nat → Prop} {v : Value} {xs : List α} (h : IsS150 w0 W g f0 f1 f2) (ho : d.R e W base ok v xs) (ht : e ≠ 150) : some g ≠ v.ownBlock := by
 obtain ⟨A0, c0, hb, hg, hr0⟩ := h
 exact Kd.R_ne ho hb ht
theorem IsS150.apartS {w0 W : World} {g : Nat} {f0 : List Int} {f1 : Int} {f2 : Int} {α : Type} {d : Kd α} {e : Nat} {base : Nat} {ok : Nat → Prop} {v : Value} {xs : List α} (h : IsS150 w0 W g f0 f1 f2) (ho : d.S e W base ok v xs) (ht : ∀ q, q ∈ e :: d.E → q ≠ 150) : d.S e W base (fun k => ok k ∧ k ≠ g) v xs := by
 obtain ⟨A0, c0, hb, hg, hr0⟩ := h
 exact Kd.S_types ho hb ht
theorem IsS150.own_neS {w0 W : World} {g : Nat} {f0 : List Int} {f1 : Int} {f2 : Int} {α : Type} {d : Kd α} {e : Nat} {base : Nat} {ok : Nat → Prop} {v : Value} {xs : List α} (h : IsS150 w0 W g f0 f1 f2) (ho : d.S e W base ok v xs) (ht : e ≠ 150) : some g ≠ v.ownBlock := by
 obtain ⟨A0, c0, hb, hg, hr0⟩ := h
 exact Kd.S_ne ho hb ht
theorem IsS150.lt {w0 W : World} {g : Nat} {f0 : List Int} {f1 : Int} {f2 : Int} (h : IsS150 w0 W g f0 f1 f2) : g < W.heap.size := by
 obtain ⟨A0, c0, hb, hg, hr0⟩ := h
 exact blk_lt hb
theorem IsS150.ge {w0 W : World} {g : Nat} {f0 : List Int} {f1 : Int} {f2 : Int} (h : IsS150 w0 W g f0 f1 f2) : w0.heap.size ≤ g := by
 obtain ⟨A0, c0, hb, hg, hr0⟩ := h
 exact hg
theorem IsS150.far {w0 W : World} {g : Nat} {f0 : List Int} {f1 : Int} {f2 : Int} {p : Addr} (h : IsS150 w0 W g f0 f1 f2) (hne : g ≠ p.block) (u : Value) : IsS150 w0 (W.setCell p u) g f0 f1 f2 := by
 obtain ⟨A0, c0, hb, hg, hr0⟩ := h
 exact ⟨A0, c0, blk_far hb hne u, hg, hr0⟩
theorem cellS150_0 {W : World} {g : Nat} {A0 : Option Addr} {c0 : Nat} {f0 : List Int} {f1 : Int} {f2 : Int} (h : W.heap[g]? = some (.cells #[.slice A0 f0.length c0, .int .i64 f1, .int .i64 f2] 150 (0, 0))) : W.cell? ⟨g, 0, none⟩ = some (.slice A0 f0.length c0) := (zK h 0).trans rfl
theorem cellS150_1 {W : World} {g : Nat} {A0 : Option Addr} {c0 : Nat} {f0 : List Int} {f1 : Int} {f2 : Int} (h : W.heap[g]? = some (.cells #[.slice A0 f0.length c0, .int .i64 f1, .int .i64 f2] 150 (0, 0))) : W.cell? ⟨g, 1, none⟩ = some (.int .i64 f1) := (zK h 1).trans rfl
theorem IsS150.set_1 {w0 W : World} {g : Nat} {f0 : List Int} {f1 : Int} {f2 : Int} (h : IsS150 w0 W g f0 f1 f2) (x : Int) : IsS150 w0 (W.setCell ⟨g, 1, none⟩ (.int .i64 x)) g f0 x f2 := by
 obtain ⟨A0, c0, hb, hg, hr0⟩ := h
 exact ⟨A0, c0, by simpa using blk_set hb 1 (.int .i64 x), hg, hr0⟩
theorem cellS150_2 {W : World} {g : Nat} {A0 : Option Addr} {c0 : Nat} {f0 : List Int} {f1 : Int} {f2 : Int} (h : W.heap[g]? = some (.cells #[.slice A0 f0.length c0, .int .i64 f1, .int .i64 f2] 150 (0, 0))) : W.cell? ⟨g, 2, none⟩ = some (.int .i64 f2) := (zK h 2).trans rfl
theorem IsS150.set_2 {w0 W : World} {g : Nat} {f0 : List Int} {f1 : Int} {f2 : Int} (h : IsS150 w0 W g f0 f1 f2) (x : Int) : IsS150 w0 (W.setCell ⟨g, 2, none⟩ (.int .i64 x)) g f0 f1 x := by
 obtain ⟨A0, c0, hb, hg, hr0⟩ := h
 exact ⟨A0, c0, by simpa using blk_set hb 2 (.int .i64 x), hg, hr0⟩
def spec_l01Open.f (l0 : List Int) : Option (List Int × Int × Int) := some (l0, 0, 13 + ((l0.length : Int) % 1000))
set_option maxHeartbeats 8000000 in
set_option maxRecDepth 100000 in
theorem spec_l01Open.calls (A0 : Option Addr) (c0 : Nat) (l0 : List Int) (r1 : List Int) (r2 : Int) (r3 : Int) (w0 w : World) (hB : Below w0.heap.size w0 w) (hr0 : Kd.C (Kd.int .u8) w0 A0 l0.length l0) (hc0 : l0.length ≤ c0) (h : spec_l01Open.f l0 = some (r1, r2, r3)) :
  Calls Try.prog 84 #[.slice A0 l0.length c0] w fun e w' => ∃ g_ : Nat, e = .returned (.pointer (some ⟨g_, 0, none⟩)) ∧ IsS150 w0 w' g_ r1 r2 r3 ∧ Below w0.heap.size w0 w' ∧ Below w.heap.size w w' := by
 have hu150 := Try.underlying150
 have HR0 := zA hr0
 have HC0 := zA hc0
 clear hr0 hc0
 have HBW := zA (Below.refl w.heap.size w)
 have HW0 := zA hB.size
 have HB := zA hB
 clear hB
 have H : (some (l0, 0, 13 + ((l0.length : Int) % 1000))) = some (r1, r2, r3) := h
 clear h
 simp only [Option.some.injEq, Prod.mk.injEq] at H
 obtain ⟨rfl, rfl, rfl⟩ := H
 go_enter Try.func84, Try.ntmps84
 go_wp2_with (first | ((with_reducible refine gate_dst (N := 9) rfl ?_); refine box_event ?hg (N := 9) ?hd (cs := #[.slice A0 l0.length c0, .int .i64 0, .int .i64 (13 + ((l0.length : Int) % 1000))]) (t := 150) ?hr ?_; (case hd => rfl); (case hg => rfl); (case hr => first | (go_simp; done) | (go_simp; rfl)); intro gb149 hg w2 hbox hb; have n0_ := zA (below_step HBW.out hb); have n1_ := zA (below_step (by repeat (first | (with_reducible first | exact HB.out | apply zC | apply zB | apply zF) | exact HB.out)) hb); have n2_ := zA (hbox); have n3_ := zA ((by rw [hg]; exact (zL (by repeat (first | (with_reducible first | exact HBW.out | apply zC | apply zB | apply zF) | exact HBW.out))) : w.heap.size ≤ gb149)); have n4_ := zA ((Nat.le_trans HW0.out (by rw [hg]; exact (zL (by repeat (first | (with_reducible first | exact HBW.out | apply zC | apply zB | apply zF) | exact HBW.out))) : w.heap.size ≤ gb149) : w0.heap.size ≤ gb149)); clear HBW; clear HB; have HBW := n0_; have HB := n1_; have BK149 := n2_; have GW149 := n3_; have GE149 := n4_; clear n0_ n1_ n2_ n3_ n4_; clear hb hbox hg))
 go_ret
 exact ⟨_, rfl, (show IsS150 w0 _ gb149 l0 0 (13 + ((l0.length : Int) % 1000)) from ⟨_, _, by (with_reducible repeat (first | refine zG ?_ _ | refine zH ?_ | refine zD ?_ _)); exact BK149.out, GE149.out, HR0.out⟩), by repeat (first | (with_reducible first | exact HB.out | apply zC | apply zB | apply zF | refine zE ?_ GE149.out) | exact HB.out), by repeat (first | (with_reducible first | exact HBW.out | apply zC | apply zB | apply zF | refine zE ?_ GW149.out) | exact HBW.out)⟩
end Go.Proofs.Ytcjjmfpkhhdmlaa.G


namespace Go.Proofs.Ytcjjmfpkhhdmlaa.G
open Go.RowKit Go.Proofs.YtcjjmfpkhhdmlaaW.PrintWords Go.Proofs.YtcjjmfpkhhdmlaaW.PrintLast Go.Proofs.YtcjjmfpkhhdmlaaW.PrintMore
attribute [local go_sem] max2_int min2_int max_two min_two max_three min_three max_four min_four   -- for this text's walks alone
def spec_l01Cur_pick.f (s0_0 : List Int) (s0_1 : Int) (s0_2 : Int) (a1 : Int) : Option (Int × Int × Int) := if a1 < 2 then (some (0, s0_1, s0_2)) else (if s0_1 < (s0_0.length : Int) then (if 0 ≤ s0_1 then (if a1 > 256 then (if (wrap64 (s0_1 + 1)) < (s0_0.length : Int) then (if 0 ≤ (wrap64 (s0_1 + 1)) then (if a1 = 0 then (none) else (some (Int.tmod (wrap64 ((wrap64 (256 * (wrap64 (rd s0_0 s0_1)))) + (wrap64 (rd s0_0 (wrap64 (s0_1 + 1)))))) a1, wrap64 ((wrap64 (s0_1 + 1)) + 1), s0_2))) else (none)) else (if a1 = 0 then (none) else (some (Int.tmod (wrap64 (rd s0_0 s0_1)) a1, wrap64 (s0_1 + 1), s0_2)))) else (if a1 = 0 then (none) else (some (Int.tmod (wrap64 (rd s0_0 s0_1)) a1, wrap64 (s0_1 + 1), s0_2)))) else (none)) else (if (s0_0.length : Int) > 0 then (if (s0_0.length : Int) = 0 then (none) else (if 0 ≤ (Int.tmod s0_1 (s0_0.length : Int)) then (if (Int.tmod s0_1 (s0_0.length : Int)) < (s0_0.length : Int) then (if a1 = 0 then (none) else (some (Int.tmod (wrap64 ((wrap64 (Int.tdiv (Int.tmod (wrap64 ((wrap64 (s0_2 * 1103)) + 12345)) 65521) 3)) + (wrap64 (rd s0_0 (Int.tmod s0_1 (s0_0.length : Int)))))) a1, wrap64 (s0_1 + 1), Int.tmod (wrap64 ((wrap64 (s0_2 * 1103)) + 12345)) 65521))) else (none)) else (none))) else (if a1 = 0 then (none) else (some (Int.tmod (wrap64 (Int.tdiv (Int.tmod (wrap64 ((wrap64 (s0_2 * 1103)) + 12345)) 65521) 3)) a1, wrap64 (s0_1 + 1), Int.tmod (wrap64 ((wrap64 (s0_2 * 1103)) + 12345)) 65521)))))
set_option maxHeartbeats 8000000 in
set_option maxRecDepth 100000 in
theorem spec_l01Cur_pick.calls (g : Nat) (s0_0 : List Int) (s0_1 : Int) (s0_2 : Int) (a1 : Int) (r1 : Int) (r2 : Int) (r3 : Int) (w0 w : World) (hI : IsS150 w0 w g s0_0 s0_1 s0_2) (hB : Below w0.heap.size w0 w) (h : spec_l01Cur_pick.f s0_0 s0_1 s0_2 a1 = some (r1, r2, r3)) :
  Calls Try.prog 85 #[.pointer (some ⟨g, 0, none⟩), .int .i64 a1] w fun e w' => e = .returned (.int .i64 r1) ∧ IsS150 w0 w' g s0_0 r2 r3 ∧ Below w0.heap.size w0 w' ∧ KeepBut w w' g none := by
 have HI0 := zA hI
 have HK := zA (KeepBut.refl w g none)
 have HL := zA hB.size
 clear hI
 have HW0 := zA hB.size
 have HB := zA hB
 clear hB
 have H : (if a1 < 2 then (some (0, s0_1, s0_2)) else (if s0_1 < (s0_0.length : Int) then (if 0 ≤ s0_1 then (if a1 > 256 then (if (wrap64 (s0_1 + 1)) < (s0_0.length : Int) then (if 0 ≤ (wrap64 (s0_1 + 1)) then (if a1 = 0 then (none) else (some (Int.tmod (wrap64 ((wrap64 (256 * (wrap64 (rd s0_0 s0_1)))) + (wrap64 (rd s0_0 (wrap64 (s0_1 + 1)))))) a1, wrap64 ((wrap64 (s0_1 + 1)) + 1), s0_2))) else (none)) else (if a1 = 0 then (none) else (some (Int.tmod (wrap64 (rd s0_0 s0_1)) a1, wrap64 (s0_1 + 1), s0_2)))) else (if a1 = 0 then (none) else (some (Int.tmod (wrap64 (rd s0_0 s0_1)) a1, wrap64 (s0_1 + 1), s0_2)))) else (none)) else (if (s0_0.length : Int) > 0 then (if (s0_0.length : Int) = 0 then (none) else (if 0 ≤ (Int.tmod s0_1 (s0_0.length : Int)) then (if (Int.tmod s0_1 (s0_0.length : Int)) < (s0_0.length : Int) then (if a1 = 0 then (none) else (some (Int.tmod (wrap64 ((wrap64 (Int.tdiv (Int.tmod (wrap64 ((wrap64 (s0_2 * 1103)) + 12345)) 65521) 3)) + (wrap64 (rd s0_0 (Int.tmod s0_1 (s0_0.length : Int)))))) a1, wrap64 (s0_1 + 1), Int.tmod (wrap64 ((wrap64 (s0_2 * 1103)) + 12345)) 65521))) else (none)) else (none))) else (if a1 = 0 then (none) else (some (Int.tmod (wrap64 (Int.tdiv (Int.tmod (wrap64 ((wrap64 (s0_2 * 1103)) + 12345)) 65521) 3)) a1, wrap64 (s0_1 + 1), Int.tmod (wrap64 ((wrap64 (s0_2 * 1103)) + 12345)) 65521)))))) = some (r1, r2, r3) := h
 clear h
 by_cases c3 : a1 < 2
 ·rw [if_pos c3] at H
  have c3b0 : decide (a1 < 2) = true := zT c3
  clear c3
  simp only [Option.some.injEq, Prod.mk.injEq] at H
  obtain ⟨rfl, rfl, rfl⟩ := H
  go_enter Try.func85, Try.ntmps85
  go_wp2
  repeat (go_quiet (fail); try go_wp2)
  go_ret
  exact ⟨by first | rfl | (simp [errW_none, errW_some] <;> rfl) | (simp [*, errW_none, errW_some] <;> rfl), by repeat (first | (with_reducible first | exact HI0.out | apply IsS150.alloc | apply IsS150.drewN | apply IsS150.drew | apply IsS150.set_1 | apply IsS150.set_2) | exact HI0.out), by repeat (first | (with_reducible first | exact HB.out | apply zC | apply zB | apply zF | refine zE ?_ (IsS150.ge HI0.out)) | exact HB.out), by repeat (first | (with_reducible first | exact HK.out | apply zZ | apply yA | apply yB | apply yC) | exact HK.out)⟩
 ·rw [if_neg c3] at H
  have c3b0 : decide (a1 < 2) = false := decide_eq_false c3
  clear c3
  by_cases c4 : s0_1 < (s0_0.length : Int)
  ·rw [if_pos c4] at H
   have c4b0 : decide (s0_1 < (s0_0.length : Int)) = true := zT c4
   clear c4
   by_cases c5 : 0 ≤ s0_1
   ·rw [if_pos c5] at H
    have c5b0 : decide (0 ≤ s0_1) = true := zT c5
    clear c5
    by_cases c6 : a1 > 256
    ·rw [if_pos c6] at H
     have c6b0 : decide (256 < a1) = true := zT c6
     clear c6
     by_cases c7 : (wrap64 (s0_1 + 1)) < (s0_0.length : Int)
     ·rw [if_pos c7] at H
      have c7b0 : decide ((wrap64 (s0_1 + 1)) < (s0_0.length : Int)) = true := zT c7
      clear c7
      obtain ⟨ji8, hji8⟩ : ∃ j_ : Int, (wrap64 (s0_1 + 1)) = j_ := ⟨_, rfl⟩
      replace H : (if 0 ≤ (ji8) then (if a1 = 0 then (none) else (some (Int.tmod (wrap64 ((wrap64 (256 * (wrap64 (rd s0_0 s0_1)))) + (wrap64 (rd s0_0 (ji8))))) a1, wrap64 ((ji8) + 1), s0_2))) else (none)) = some (r1, r2, r3) := by first | (rw [hji8] at H; exact H) | (simp only [hji8] at H ⊢; exact H)
      (try rw [hji8] at c7b0)
      have hji8w : (IntKind.i64.wrap (s0_1 + 1)) = ji8 := (i64_w _).trans hji8
      by_cases c9 : 0 ≤ (ji8)
      ·rw [if_pos c9] at H
       have c9b0 : decide (0 ≤ (ji8)) = true := zT c9
       clear c9
       by_cases c10 : a1 = 0
       ·rw [if_pos c10] at H
        exact absurd H (by simp)
       ·rw [if_neg c10] at H
        have c10b0 : (a1 == 0) = false := beq_eq_false_iff_ne.mpr c10
        have c10b1 : (a1 != 0) = true := bne_iff_ne.mpr c10
        simp only [Option.some.injEq, Prod.mk.injEq] at H
        obtain ⟨rfl, rfl, rfl⟩ := H
        obtain ⟨ASz11_0, cSz11_0, HGz11, hgz11, HSz11_0⟩ := HI0.out
        have hcz11_0 := cellS150_0 HGz11
        have hcz11_1 := cellS150_1 HGz11
        have hcz11_2 := cellS150_2 HGz11
        have hfz11_1 := zJ HGz11 1
        have hfz11_2 := zJ HGz11 2
        clear HGz11 hgz11
        have p150 : 0 ≤ (s0_1 : Int) := zI (by first | (with_reducible assumption) | assumption)
        have q150 : s0_1 < (s0_0.length : Int) := zI (by first | (with_reducible assumption) | assumption)
        obtain ⟨ad150, e150, hx150_0⟩ := Kd.at_int HSz11_0 s0_1 p150 q150
        cases e150
        replace hx150_0 := pw_cell_below HB.out hx150_0
        replace p150 := eq_true p150
        replace q150 := eq_true q150
        have p151 : 0 ≤ ((ji8) : Int) := zI (by first | (with_reducible assumption) | assumption)
        have q151 : (ji8) < (s0_0.length : Int) := zI (by first | (with_reducible assumption) | assumption)
        obtain ⟨ad151, e151, hx151_0⟩ := Kd.at_int HSz11_0 (ji8) p151 q151
        obtain rfl : ad150 = ad151 := (by injection e151)
        have hn151_0 : ad150.block ≠ g := Nat.ne_of_lt (Nat.lt_of_lt_of_le (by have := World.block_lt_of_cell? _ _ hx151_0; first | rwa [add_block] at this | exact this) (IsS150.ge HI0.out))
        replace hx151_0 := pw_cell_below HB.out hx151_0
        replace hx151_0 := (cell_far (p := ⟨g, 1, none⟩) (by first | (rw [add_block]; exact hn151_0) | (show (Addr.add _ _).block ≠ _; rw [add_block]; exact hn151_0) | exact hn151_0) (.int .i64 ji8)).trans hx151_0
        (try have hy151_0 := fun (n_ : Nat) => (show (((w.drewN n_).setCell ⟨g, 1, none⟩ (.int .i64 ji8))).cell? _ = some _ from hx151_0))
        clear hn151_0
        replace p151 := eq_true p151
        replace q151 := eq_true q151
        go_enter Try.func85, Try.ntmps85
        go_wp2
        repeat (go_quiet (fail); try go_wp2)
        go_ret
        exact ⟨by first | rfl | (simp [errW_none, errW_some] <;> rfl) | (simp only [← hji8]; first | rfl | (simp [errW_none, errW_some] <;> rfl)) | (simp [*, errW_none, errW_some] <;> rfl), by repeat (first | (with_reducible first | exact HI0.out | apply IsS150.alloc | apply IsS150.drewN | apply IsS150.drew | apply IsS150.set_1 | apply IsS150.set_2) | exact HI0.out), by repeat (first | (with_reducible first | exact HB.out | apply zC | apply zB | apply zF | refine zE ?_ (IsS150.ge HI0.out)) | exact HB.out), by repeat (first | (with_reducible first | exact HK.out | apply zZ | apply yA | apply yB | apply yC) | exact HK.out)⟩
      ·rw [if_neg c9] at H
       exact absurd H (by simp)
     ·rw [if_neg c7] at H
      have c7b0 : decide ((wrap64 (s0_1 + 1)) < (s0_0.length : Int)) = false := decide_eq_false c7
      clear c7
      by_cases c12 : a1 = 0
      ·rw [if_pos c12] at H
       exact absurd H (by simp)
      ·rw [if_neg c12] at H
       have c12b0 : (a1 == 0) = false := beq_eq_false_iff_ne.mpr c12
       have c12b1 : (a1 != 0) = true := bne_iff_ne.mpr c12
       simp only [Option.some.injEq, Prod.mk.injEq] at H
       obtain ⟨rfl, rfl, rfl⟩ := H
       obtain ⟨ASz13_0, cSz13_0, HGz13, hgz13, HSz13_0⟩ := HI0.out
       have hcz13_0 := cellS150_0 HGz13
       have hcz13_1 := cellS150_1 HGz13
       have hcz13_2 := cellS150_2 HGz13
       have hfz13_1 := zJ HGz13 1
       have hfz13_2 := zJ HGz13 2
       clear HGz13 hgz13
       have p150 : 0 ≤ (s0_1 : Int) := zI (by first | (with_reducible assumption) | assumption)
       have q150 : s0_1 < (s0_0.length : Int) := zI (by first | (with_reducible assumption) | assumption)
       obtain ⟨ad150, e150, hx150_0⟩ := Kd.at_int HSz13_0 s0_1 p150 q150
       cases e150
       replace hx150_0 := pw_cell_below HB.out hx150_0
       replace p150 := eq_true p150
       replace q150 := eq_true q150
       go_enter Try.func85, Try.ntmps85
       go_wp2
       repeat (go_quiet (fail); try go_wp2)
       go_ret
       exact ⟨by first | rfl | (simp [errW_none, errW_some] <;> rfl) | (simp [*, errW_none, errW_some] <;> rfl), by repeat (first | (with_reducible first | exact HI0.out | apply IsS150.alloc | apply IsS150.drewN | apply IsS150.drew | apply IsS150.set_1 | apply IsS150.set_2) | exact HI0.out), by repeat (first | (with_reducible first | exact HB.out | apply zC | apply zB | apply zF | refine zE ?_ (IsS150.ge HI0.out)) | exact HB.out), by repeat (first | (with_reducible first | exact HK.out | apply zZ | apply yA | apply yB | apply yC) | exact HK.out)⟩
    ·rw [if_neg c6] at H
     have c6b0 : decide (256 < a1) = false := decide_eq_false c6
     clear c6
     by_cases c14 : a1 = 0
     ·rw [if_pos c14] at H
      exact absurd H (by simp)
     ·rw [if_neg c14] at H
      have c14b0 : (a1 == 0) = false := beq_eq_false_iff_ne.mpr c14
      have c14b1 : (a1 != 0) = true := bne_iff_ne.mpr c14
      simp only [Option.some.injEq, Prod.mk.injEq] at H
      obtain ⟨rfl, rfl, rfl⟩ := H
      obtain ⟨ASz15_0, cSz15_0, HGz15, hgz15, HSz15_0⟩ := HI0.out
      have hcz15_0 := cellS150_0 HGz15
      have hcz15_1 := cellS150_1 HGz15
      have hcz15_2 := cellS150_2 HGz15
      have hfz15_1 := zJ HGz15 1
      have hfz15_2 := zJ HGz15 2
      clear HGz15 hgz15
      have p150 : 0 ≤ (s0_1 : Int) := zI (by first | (with_reducible assumption) | assumption)
      have q150 : s0_1 < (s0_0.length : Int) := zI (by first | (with_reducible assumption) | assumption)
      obtain ⟨ad150, e150, hx150_0⟩ := Kd.at_int HSz15_0 s0_1 p150 q150
      cases e150
      replace hx150_0 := pw_cell_below HB.out hx150_0
      replace p150 := eq_true p150
      replace q150 := eq_true q150
      go_enter Try.func85, Try.ntmps85
      go_wp2
      repeat (go_quiet (fail); try go_wp2)
      go_ret
      exact ⟨by first | rfl | (simp [errW_none, errW_some] <;> rfl) | (simp [*, errW_none, errW_some] <;> rfl), by repeat (first | (with_reducible first | exact HI0.out | apply IsS150.alloc | apply IsS150.drewN | apply IsS150.drew | apply IsS150.set_1 | apply IsS150.set_2) | exact HI0.out), by repeat (first | (with_reducible first | exact HB.out | apply zC | apply zB | apply zF | refine zE ?_ (IsS150.ge HI0.out)) | exact HB.out), by repeat (first | (with_reducible first | exact HK.out | apply zZ | apply yA | apply yB | apply yC) | exact HK.out)⟩
   ·rw [if_neg c5] at H
    exact absurd H (by simp)
  ·rw [if_neg c4] at H
   have c4b0 : decide (s0_1 < (s0_0.length : Int)) = false := decide_eq_false c4
   clear c4
   by_cases c16 : (s0_0.length : Int) > 0
   ·rw [if_pos c16] at H
    have c16b0 : decide (0 < (s0_0.length : Int)) = true := zT c16
    have c16b1 : decide (0 < s0_0.length) = true := zT (by omega)
    clear c16
    by_cases c17 : (s0_0.length : Int) = 0
    ·rw [if_pos c17] at H
     exact absurd H (by simp)
    ·rw [if_neg c17] at H
     have c17b0 : ((s0_0.length : Int) == 0) = false := beq_eq_false_iff_ne.mpr c17
     have c17b1 : ((s0_0.length : Int) != 0) = true := bne_iff_ne.mpr c17
     have c17b2 : ¬ (s0_0 = []) := fun h_ => c17 (by rw [h_]; rfl)
     obtain ⟨ji18, hji18⟩ : ∃ j_ : Int, (Int.tmod s0_1 (s0_0.length : Int)) = j_ := ⟨_, rfl⟩
     replace H : (if 0 ≤ (ji18) then (if (ji18) < (s0_0.length : Int) then (if a1 = 0 then (none) else (some (Int.tmod (wrap64 ((wrap64 (Int.tdiv (Int.tmod (wrap64 ((wrap64 (s0_2 * 1103)) + 12345)) 65521) 3)) + (wrap64 (rd s0_0 (ji18))))) a1, wrap64 (s0_1 + 1), Int.tmod (wrap64 ((wrap64 (s0_2 * 1103)) + 12345)) 65521))) else (none)) else (none)) = some (r1, r2, r3) := by first | (rw [hji18] at H; exact H) | (simp only [hji18] at H ⊢; exact H)
     by_cases c19 : 0 ≤ (ji18)
     ·rw [if_pos c19] at H
      have c19b0 : decide (0 ≤ (ji18)) = true := zT c19
      clear c19
      by_cases c20 : (ji18) < (s0_0.length : Int)
      ·rw [if_pos c20] at H
       have c20b0 : decide ((ji18) < (s0_0.length : Int)) = true := zT c20
       clear c20
       by_cases c21 : a1 = 0
       ·rw [if_pos c21] at H
        exact absurd H (by simp)
       ·rw [if_neg c21] at H
        have c21b0 : (a1 == 0) = false := beq_eq_false_iff_ne.mpr c21
        have c21b1 : (a1 != 0) = true := bne_iff_ne.mpr c21
        simp only [Option.some.injEq, Prod.mk.injEq] at H
        obtain ⟨rfl, rfl, rfl⟩ := H
        obtain ⟨ASz22_0, cSz22_0, HGz22, hgz22, HSz22_0⟩ := HI0.out
        have hcz22_0 := cellS150_0 HGz22
        have hcz22_1 := cellS150_1 HGz22
        have hcz22_2 := cellS150_2 HGz22
        have hfz22_1 := zJ HGz22 1
        have hfz22_2 := zJ HGz22 2
        clear HGz22 hgz22
        have p152 : 0 ≤ ((ji18) : Int) := zI (by first | (with_reducible assumption) | assumption)
        have q152 : (ji18) < (s0_0.length : Int) := zI (by first | (with_reducible assumption) | assumption)
        obtain ⟨ad152, e152, hx152_0⟩ := Kd.at_int HSz22_0 (ji18) p152 q152
        cases e152
        have hn152_0 : ad152.block ≠ g := Nat.ne_of_lt (Nat.lt_of_lt_of_le (by have := World.block_lt_of_cell? _ _ hx152_0; first | rwa [add_block] at this | exact this) (IsS150.ge HI0.out))
        replace hx152_0 := pw_cell_below HB.out hx152_0
        replace hx152_0 := (cell_far (p := ⟨g, 2, none⟩) (by first | (rw [add_block]; exact hn152_0) | (show (Addr.add _ _).block ≠ _; rw [add_block]; exact hn152_0) | exact hn152_0) (.int .i64 (Int.tmod (wrap64 ((wrap64 (s0_2 * 1103)) + 12345)) 65521))).trans hx152_0
        (try have hy152_0 := fun (n_ : Nat) => (show (((w.drewN n_).setCell ⟨g, 2, none⟩ (.int .i64 (Int.tmod (wrap64 ((wrap64 (s0_2 * 1103)) + 12345)) 65521)))).cell? _ = some _ from hx152_0))
        clear hn152_0
        replace p152 := eq_true p152
        replace q152 := eq_true q152
        go_enter Try.func85, Try.ntmps85
        go_wp2
        repeat (go_quiet (fail); try go_wp2)
        go_ret
        exact ⟨by first | rfl | (simp [errW_none, errW_some] <;> rfl) | (simp only [← hji18]; first | rfl | (simp [errW_none, errW_some] <;> rfl)) | (simp [*, errW_none, errW_some] <;> rfl), by repeat (first | (with_reducible first | exact HI0.out | apply IsS150.alloc | apply IsS150.drewN | apply IsS150.drew | apply IsS150.set_1 | apply IsS150.set_2) | exact HI0.out), by repeat (first | (with_reducible first | exact HB.out | apply zC | apply zB | apply zF | refine zE ?_ (IsS150.ge HI0.out)) | exact HB.out), by repeat (first | (with_reducible first | exact HK.out | apply zZ | apply yA | apply yB | apply yC) | exact HK.out)⟩
      ·rw [if_neg c20] at H
       exact absurd H (by simp)
     ·rw [if_neg c19] at H
      exact absurd H (by simp)
   ·rw [if_neg c16] at H
    have c16b0 : decide (0 < (s0_0.length : Int)) = false := decide_eq_false c16
    have c16b1 : decide (0 < s0_0.length) = false := decide_eq_false (by omega)
    clear c16
    by_cases c23 : a1 = 0
    ·rw [if_pos c23] at H
     exact absurd H (by simp)
    ·rw [if_neg c23] at H
     have c23b0 : (a1 == 0) = false := beq_eq_false_iff_ne.mpr c23
     have c23b1 : (a1 != 0) = true := bne_iff_ne.mpr c23
     simp only [Option.some.injEq, Prod.mk.injEq] at H
     obtain ⟨rfl, rfl, rfl⟩ := H
     obtain ⟨ASz24_0, cSz24_0, HGz24, hgz24, HSz24_0⟩ := HI0.out
     have hcz24_0 := cellS150_0 HGz24
     have hcz24_1 := cellS150_1 HGz24
     have hcz24_2 := cellS150_2 HGz24
     have hfz24_1 := zJ HGz24 1
     have hfz24_2 := zJ HGz24 2
     clear HGz24 hgz24
     go_enter Try.func85, Try.ntmps85
     go_wp2
     repeat (go_quiet (fail); try go_wp2)
     go_ret
     exact ⟨by first | rfl | (simp [errW_none, errW_some] <;> rfl) | (simp [*, errW_none, errW_some] <;> rfl), by repeat (first | (with_reducible first | exact HI0.out | apply IsS150.alloc | apply IsS150.drewN | apply IsS150.drew | apply IsS150.set_1 | apply IsS150.set_2) | exact HI0.out), by repeat (first | (with_reducible first | exact HB.out | apply zC | apply zB | apply zF | refine zE ?_ (IsS150.ge HI0.out)) | exact HB.out), by repeat (first | (with_reducible first | exact HK.out | apply zZ | apply yA | apply yB | apply yC) | exact HK.out)⟩
/-- a byte, or a nought beyond -/
theorem rd_byte (c : List Int) (hc : ∀ x ∈ c, 0 ≤ x ∧ x ≤ 255) (i : Int) : 0 ≤ rd c i ∧ rd c i ≤ 255 := by
 unfold rd
 rcases Nat.lt_or_ge i.toNat c.length with h | h
 ·rw [List.getD_eq_getElem?_getD, List.getElem?_eq_getElem h, Option.getD_some]
  exact hc _ (List.getElem_mem h)
 ·rw [List.getD_eq_getElem?_getD, List.getElem?_eq_none h, Option.getD_none]
  omega
theorem spec_l01Cur_pick.val (c : List Int) (hc : ∀ x ∈ c, 0 ≤ x ∧ x ≤ 255) (hl : c.length ≤ 1048576) (a s n : Int) (ha : 0 ≤ a) (ha2 : a ≤ 1000000000000) (hs0 : 0 ≤ s) (hs1 : s ≤ 65536) :
  ∃ x a' s', spec_l01Cur_pick.f c a s n = some (x, a', s') ∧ 0 ≤ x ∧ (x < n ∨ (n < 2 ∧ x = 0)) ∧ a ≤ a' ∧ a' ≤ a + 2 ∧ 0 ≤ s' ∧ s' ≤ 65536 := by
 unfold spec_l01Cur_pick.f
 by_cases h2 : n < 2
 ·rw [if_pos h2]
  exact ⟨0, a, s, rfl, by omega, by omega, by omega, by omega, by omega, by omega⟩
 ·rw [if_neg h2]
  have tm : ∀ x : Int, 0 ≤ x → 0 ≤ Int.tmod x n ∧ Int.tmod x n < n := fun x hx => ⟨Int.tmod_nonneg _ hx, Int.tmod_lt_of_pos _ (by omega)⟩
  have n0 : ¬ n = 0 := by omega
  have b1 := rd_byte c hc a
  have b2 := rd_byte c hc (a + 1)
  rw [wrap_in (a + 1) (by omega) (by omega)]
  by_cases h3 : a < c.length
  ·rw [if_pos h3, if_pos ha, wrap_in (rd c a) (by omega) (by omega), wrap_in (256 * rd c a) (by omega) (by omega), wrap_in (rd c (a + 1)) (by omega) (by omega), wrap_in (256 * rd c a + rd c (a + 1)) (by omega) (by omega), wrap_in (a + 1 + 1) (by omega) (by omega), if_neg n0, if_neg n0]
   have t1 := tm (256 * rd c a + rd c (a + 1)) (by omega)
   have t2 := tm (rd c a) (by omega)
   by_cases h4 : n > 256
   ·rw [if_pos h4]
    by_cases h5 : a + 1 < c.length
    ·rw [if_pos h5, if_pos (by omega)]
     exact ⟨_, _, _, rfl, t1.1, .inl t1.2, by omega, by omega, by omega, by omega⟩
    ·rw [if_neg h5]
     exact ⟨_, _, _, rfl, t2.1, .inl t2.2, by omega, by omega, by omega, by omega⟩
   ·rw [if_neg h4]
    exact ⟨_, _, _, rfl, t2.1, .inl t2.2, by omega, by omega, by omega, by omega⟩
  ·rw [if_neg h3, wrap_in (s * 1103) (by omega) (by omega), wrap_in (s * 1103 + 12345) (by omega) (by omega)]
   have q0 : 0 ≤ Int.tmod (s * 1103 + 12345) 65521 := Int.tmod_nonneg _ (by omega)
   have q1 : Int.tmod (s * 1103 + 12345) 65521 < 65521 := Int.tmod_lt_of_pos _ (by omega)
   generalize Int.tmod (s * 1103 + 12345) 65521 = s' at q0 q1 ⊢
   have q2 : 0 ≤ Int.tdiv s' 3 := Int.tdiv_nonneg q0 (by omega)
   have q3 : Int.tdiv s' 3 ≤ s' := Int.tdiv_le_self _ q0
   generalize Int.tdiv s' 3 = z at q2 q3 ⊢
   rw [wrap_in z (by omega) (by omega), if_neg n0, if_neg n0]
   by_cases h6 : (c.length : Int) > 0
   ·have t3 : 0 ≤ Int.tmod a c.length ∧ Int.tmod a c.length < c.length := ⟨Int.tmod_nonneg _ ha, Int.tmod_lt_of_pos _ h6⟩
    have b3 := rd_byte c hc (Int.tmod a c.length)
    rw [if_pos h6, if_neg (by omega), if_pos t3.1, if_pos t3.2, wrap_in (rd c (Int.tmod a c.length)) (by omega) (by omega), wrap_in (z + rd c (Int.tmod a c.length)) (by omega) (by omega)]
    have t4 := tm (z + rd c (Int.tmod a c.length)) (by omega)
    exact ⟨_, _, _, rfl, t4.1, .inl t4.2, by omega, by omega, by omega, by omega⟩
   ·rw [if_neg h6]
    have t4 := tm z q2
    exact ⟨_, _, _, rfl, t4.1, .inl t4.2, by omega, by omega, by omega, by omega⟩
end Go.Proofs.Ytcjjmfpkhhdmlaa.G


namespace Go.Proofs.Ytcjjmfpkhhdmlaa.G
open Go.RowKit Go.Proofs.YtcjjmfpkhhdmlaaW.PrintWords Go.Proofs.YtcjjmfpkhhdmlaaW.PrintLast Go.Proofs.YtcjjmfpkhhdmlaaW.PrintMore
attribute [local go_sem] max2_int min2_int max_two min_two max_three min_three max_four min_four   -- for this text's walks alone
def spec_l01Cur_odd.f (s0_0 : List Int) (s0_1 : Int) (s0_2 : Int) : Option (Int × Int × Int) := (some (([(-1), 0, 1, 2, 255, 256, 65535, 9223372036854775807, (-9223372036854775808), 17, 8, 12] : List Int) : List Int)).bind fun y156 => ((spec_l01Cur_pick.f s0_0 s0_1 s0_2 12).bind fun bt159 => (if 0 ≤ bt159.1 then (if bt159.1 < (y156.length : Int) then (some (rd y156 bt159.1, bt159.2.1, bt159.2.2)) else (none)) else (none)))
end Go.Proofs.Ytcjjmfpkhhdmlaa.G


namespace Go.Proofs.Ytcjjmfpkhhdmlaa.G
open Go.RowKit Go.Proofs.YtcjjmfpkhhdmlaaW.PrintWords Go.Proofs.YtcjjmfpkhhdmlaaW.PrintLast Go.Proofs.YtcjjmfpkhhdmlaaW.PrintMore
attribute [local go_sem] max2_int min2_int max_two min_two max_three min_three max_four min_four   -- for this text's walks alone
def spec_l01Cur_size.f (s0_0 : List Int) (s0_1 : Int) (s0_2 : Int) (a1 : Int) : Option (Int × Int × Int) := if (wrap64 (1 + (wrap64 ((s0_0.length : Int) / 10)))) > a1 then ((spec_l01Cur_pick.f s0_0 s0_1 s0_2 (wrap64 (a1 + 1))).bind fun bt408 => (some (bt408.1, bt408.2.1, bt408.2.2))) else ((spec_l01Cur_pick.f s0_0 s0_1 s0_2 (wrap64 ((wrap64 (1 + (wrap64 ((s0_0.length : Int) / 10)))) + 1))).bind fun bt411 => (some (bt411.1, bt411.2.1, bt411.2.2)))
set_option maxHeartbeats 8000000 in
set_option maxRecDepth 100000 in
theorem spec_l01Cur_size.calls (g : Nat) (s0_0 : List Int) (s0_1 : Int) (s0_2 : Int) (a1 : Int) (r1 : Int) (r2 : Int) (r3 : Int) (w0 w : World) (hI : IsS150 w0 w g s0_0 s0_1 s0_2) (hB : Below w0.heap.size w0 w) (h : spec_l01Cur_size.f s0_0 s0_1 s0_2 a1 = some (r1, r2, r3)) :
  Calls Try.prog 153 #[.pointer (some ⟨g, 0, none⟩), .int .i64 a1] w fun e w' => e = .returned (.int .i64 r1) ∧ IsS150 w0 w' g s0_0 r2 r3 ∧ Below w0.heap.size w0 w' ∧ KeepBut w w' g none := by
 have HI0 := zA hI
 have HK := zA (KeepBut.refl w g none)
 have HL := zA hB.size
 clear hI
 have HW0 := zA hB.size
 have HB := zA hB
 clear hB
 have H : (if (wrap64 (1 + (wrap64 ((s0_0.length : Int) / 10)))) > a1 then ((spec_l01Cur_pick.f s0_0 s0_1 s0_2 (wrap64 (a1 + 1))).bind fun bt408 => (some (bt408.1, bt408.2.1, bt408.2.2))) else ((spec_l01Cur_pick.f s0_0 s0_1 s0_2 (wrap64 ((wrap64 (1 + (wrap64 ((s0_0.length : Int) / 10)))) + 1))).bind fun bt411 => (some (bt411.1, bt411.2.1, bt411.2.2)))) = some (r1, r2, r3) := h
 clear h
 by_cases c3 : (wrap64 (1 + (wrap64 ((s0_0.length : Int) / 10)))) > a1
 ·rw [if_pos c3] at H
  have c3b0 : decide (a1 < (wrap64 (1 + (wrap64 ((s0_0.length : Int) / 10))))) = true := zT c3
  clear c3
  replace H := Option.bind_eq_some_iff.mp H
  obtain ⟨⟨t408, t409, t410⟩, A40, H⟩ := H
  replace H : (some (t408, t409, t410)) = some (r1, r2, r3) := H
  have A4 := zA A40
  clear A40
  simp only [Option.some.injEq, Prod.mk.injEq] at H
  obtain ⟨rfl, rfl, rfl⟩ := H
  obtain ⟨ASz5_0, cSz5_0, HGz5, hgz5, HSz5_0⟩ := HI0.out
  have hcz5_0 := cellS150_0 HGz5
  have hcz5_1 := cellS150_1 HGz5
  have hcz5_2 := cellS150_2 HGz5
  have hfz5_1 := zJ HGz5 1
  have hfz5_2 := zJ HGz5 2
  clear HGz5 hgz5
  go_enter Try.func153, Try.ntmps153
  go_wp2_with (first | ((with_reducible refine gate_callee (f := 85) rfl ?_); refine goesL_ (some 20) rfl rfl Try.func85 (by kernel_rfl) rfl #[.pointer (some ⟨g, 0, none⟩), .int .i64 (wrap64 (a1 + 1))] rfl (by (try simp only [zU, zV, zW]); first | done | rfl | (simp only [zR, zQ]; rfl)) ?_; (with_reducible refine (spec_l01Cur_pick.calls g s0_0 s0_1 s0_2 (wrap64 (a1 + 1)) t408 t409 t410 w0 _ ?side1 ?side2 A4.out).mono ?_); (case side1 => repeat (first | (with_reducible first | exact HI0.out | apply IsS150.alloc | apply IsS150.drewN | apply IsS150.drew | apply IsS150.set_1 | apply IsS150.set_2) | exact HI0.out)); (case side2 => repeat (first | (with_reducible first | exact HB.out | apply zC | apply zB | apply zF | refine zE ?_ (IsS150.ge HI0.out)) | exact HB.out)); rintro e w6 ⟨rfl, hi, hb, hk⟩; refine ⟨_, rfl, ?_⟩; have n0_ := zA (KeepBut.trans (by repeat (first | (with_reducible first | exact HK.out | apply zZ | apply yA | apply yB | apply yC) | exact HK.out)) hk (.inl rfl)); have n1_ := zA (hb); have n2_ := zA (hi); clear HK; clear HB; clear HI0; have HK := n0_; have HB := n1_; have HI0 := n2_; clear n0_ n1_ n2_; (try clear hb); (try clear hb2); (try clear hk); (try clear hi)))
  go_ret
  exact ⟨by first | rfl | (simp [errW_none, errW_some] <;> rfl) | (simp [*, errW_none, errW_some] <;> rfl), by repeat (first | (with_reducible first | exact HI0.out | apply IsS150.alloc | apply IsS150.drewN | apply IsS150.drew | apply IsS150.set_1 | apply IsS150.set_2) | exact HI0.out), by repeat (first | (with_reducible first | exact HB.out | apply zC | apply zB | apply zF | refine zE ?_ (IsS150.ge HI0.out)) | exact HB.out), by repeat (first | (with_reducible first | exact HK.out | apply zZ | apply yA | apply yB | apply yC) | exact HK.out)⟩
 ·rw [if_neg c3] at H
  have c3b0 : decide (a1 < (wrap64 (1 + (wrap64 ((s0_0.length : Int) / 10))))) = false := decide_eq_false c3
  clear c3
  replace H := Option.bind_eq_some_iff.mp H
  obtain ⟨⟨t411, t412, t413⟩, A70, H⟩ := H
  replace H : (some (t411, t412, t413)) = some (r1, r2, r3) := H
  have A7 := zA A70
  clear A70
  simp only [Option.some.injEq, Prod.mk.injEq] at H
  obtain ⟨rfl, rfl, rfl⟩ := H
  obtain ⟨ASz8_0, cSz8_0, HGz8, hgz8, HSz8_0⟩ := HI0.out
  have hcz8_0 := cellS150_0 HGz8
  have hcz8_1 := cellS150_1 HGz8
  have hcz8_2 := cellS150_2 HGz8
  have hfz8_1 := zJ HGz8 1
  have hfz8_2 := zJ HGz8 2
  clear HGz8 hgz8
  go_enter Try.func153, Try.ntmps153
  go_wp2_with (first | ((with_reducible refine gate_callee (f := 85) rfl ?_); refine goesL_ (some 20) rfl rfl Try.func85 (by kernel_rfl) rfl #[.pointer (some ⟨g, 0, none⟩), .int .i64 (wrap64 ((wrap64 (1 + (wrap64 ((s0_0.length : Int) / 10)))) + 1))] rfl (by (try simp only [zU, zV, zW]); first | done | rfl | (simp only [zR, zQ]; rfl)) ?_; (with_reducible refine (spec_l01Cur_pick.calls g s0_0 s0_1 s0_2 (wrap64 ((wrap64 (1 + (wrap64 ((s0_0.length : Int) / 10)))) + 1)) t411 t412 t413 w0 _ ?side1 ?side2 A7.out).mono ?_); (case side1 => repeat (first | (with_reducible first | exact HI0.out | apply IsS150.alloc | apply IsS150.drewN | apply IsS150.drew | apply IsS150.set_1 | apply IsS150.set_2) | exact HI0.out)); (case side2 => repeat (first | (with_reducible first | exact HB.out | apply zC | apply zB | apply zF | refine zE ?_ (IsS150.ge HI0.out)) | exact HB.out)); rintro e w9 ⟨rfl, hi, hb, hk⟩; refine ⟨_, rfl, ?_⟩; have n0_ := zA (KeepBut.trans (by repeat (first | (with_reducible first | exact HK.out | apply zZ | apply yA | apply yB | apply yC) | exact HK.out)) hk (.inl rfl)); have n1_ := zA (hb); have n2_ := zA (hi); clear HK; clear HB; clear HI0; have HK := n0_; have HB := n1_; have HI0 := n2_; clear n0_ n1_ n2_; (try clear hb); (try clear hb2); (try clear hk); (try clear hi)))
  go_ret
  exact ⟨by first | rfl | (simp [errW_none, errW_some] <;> rfl) | (simp [*, errW_none, errW_some] <;> rfl), by repeat (first | (with_reducible first | exact HI0.out | apply IsS150.alloc | apply IsS150.drewN | apply IsS150.drew | apply IsS150.set_1 | apply IsS150.set_2) | exact HI0.out), by repeat (first | (with_reducible first | exact HB.out | apply zC | apply zB | apply zF | refine zE ?_ (IsS150.ge HI0.out)) | exact HB.out), by repeat (first | (with_reducible first | exact HK.out | apply zZ | apply yA | apply yB | apply yC) | exact HK.out)⟩
theorem spec_l01Cur_size.val (c : List Int) (hc : ∀ x ∈ c, 0 ≤ x ∧ x ≤ 255) (hl : c.length ≤ 1048576) (a s n : Int) (ha : 0 ≤ a) (ha2 : a ≤ 1000000000000) (hs0 : 0 ≤ s) (hs1 : s ≤ 65536) (hn : 0 ≤ n) (hn2 : n ≤ 1000000000) :
  ∃ x a' s', spec_l01Cur_size.f c a s n = some (x, a', s') ∧ 0 ≤ x ∧ x ≤ n ∧ a ≤ a' ∧ a' ≤ a + 2 ∧ 0 ≤ s' ∧ s' ≤ 65536 := by
 unfold spec_l01Cur_size.f
 rw [wrap_in ((c.length : Int) / 10) (by omega) (by omega), wrap_in (1 + (c.length : Int) / 10) (by omega) (by omega), wrap_in (n + 1) (by omega) (by omega), wrap_in (1 + (c.length : Int) / 10 + 1) (by omega) (by omega)]
 by_cases h : 1 + (c.length : Int) / 10 > n
 ·obtain ⟨x, a', s', e, h1, h2, h3, h4, h5, h6⟩ := spec_l01Cur_pick.val c hc hl a s (n + 1) ha ha2 hs0 hs1
  rw [if_pos h, e]
  exact ⟨x, a', s', rfl, h1, by omega, h3, h4, h5, h6⟩
 ·obtain ⟨x, a', s', e, h1, h2, h3, h4, h5, h6⟩ := spec_l01Cur_pick.val c hc hl a s (1 + (c.length : Int) / 10 + 1) ha ha2 hs0 hs1
  rw [if_neg h, e]
  exact ⟨x, a', s', rfl, h1, by omega, h3, h4, h5, h6⟩
end Go.Proofs.Ytcjjmfpkhhdmlaa.G


namespace Go.Proofs.Ytcjjmfpkhhdmlaa.G
open Go.RowKit Go.Proofs.YtcjjmfpkhhdmlaaW.PrintWords Go.Proofs.YtcjjmfpkhhdmlaaW.PrintLast Go.Proofs.YtcjjmfpkhhdmlaaW.PrintMore
attribute [local go_sem] max2_int min2_int max_two min_two max_three min_three max_four min_four   -- for this text's walks alone
def spec_l01Cur_once.f (s0_0 : List Int) (s0_1 : Int) (s0_2 : Int) (a1 : Int) : Option (Bool × Int × Int) := (spec_l01Cur_pick.f s0_0 s0_1 s0_2 a1).bind fun bt153 => (some ((bt153.1 == (wrap64 (a1 - 1))), bt153.2.1, bt153.2.2))
set_option maxHeartbeats 8000000 in
set_option maxRecDepth 100000 in
theorem spec_l01Cur_once.calls (g : Nat) (s0_0 : List Int) (s0_1 : Int) (s0_2 : Int) (a1 : Int) (r1 : Bool) (r2 : Int) (r3 : Int) (w0 w : World) (hI : IsS150 w0 w g s0_0 s0_1 s0_2) (hB : Below w0.heap.size w0 w) (h : spec_l01Cur_once.f s0_0 s0_1 s0_2 a1 = some (r1, r2, r3)) :
  Calls Try.prog 87 #[.pointer (some ⟨g, 0, none⟩), .int .i64 a1] w fun e w' => e = .returned (.bool r1) ∧ IsS150 w0 w' g s0_0 r2 r3 ∧ Below w0.heap.size w0 w' ∧ KeepBut w w' g none := by
 have HI0 := zA hI
 have HK := zA (KeepBut.refl w g none)
 have HL := zA hB.size
 clear hI
 have HW0 := zA hB.size
 have HB := zA hB
 clear hB
 have H : ((spec_l01Cur_pick.f s0_0 s0_1 s0_2 a1).bind fun bt153 => (some ((bt153.1 == (wrap64 (a1 - 1))), bt153.2.1, bt153.2.2))) = some (r1, r2, r3) := h
 clear h
 replace H := Option.bind_eq_some_iff.mp H
 obtain ⟨⟨t153, t154, t155⟩, A30, H⟩ := H
 replace H : (some ((t153 == (wrap64 (a1 - 1))), t154, t155)) = some (r1, r2, r3) := H
 have A3 := zA A30
 clear A30
 simp only [Option.some.injEq, Prod.mk.injEq] at H
 obtain ⟨rfl, rfl, rfl⟩ := H
 go_enter Try.func87, Try.ntmps87
 go_wp2_with (first | ((with_reducible refine gate_callee (f := 85) rfl ?_); refine goesL_ (some 7) rfl rfl Try.func85 (by kernel_rfl) rfl #[.pointer (some ⟨g, 0, none⟩), .int .i64 a1] rfl (by (try simp only [zU, zV, zW]); first | done | rfl | (simp only [zR, zQ]; rfl)) ?_; (with_reducible refine (spec_l01Cur_pick.calls g s0_0 s0_1 s0_2 a1 t153 t154 t155 w0 _ ?side1 ?side2 A3.out).mono ?_); (case side1 => repeat (first | (with_reducible first | exact HI0.out | apply IsS150.alloc | apply IsS150.drewN | apply IsS150.drew | apply IsS150.set_1 | apply IsS150.set_2) | exact HI0.out)); (case side2 => repeat (first | (with_reducible first | exact HB.out | apply zC | apply zB | apply zF | refine zE ?_ (IsS150.ge HI0.out)) | exact HB.out)); rintro e w4 ⟨rfl, hi, hb, hk⟩; refine ⟨_, rfl, ?_⟩; have n0_ := zA (KeepBut.trans (by repeat (first | (with_reducible first | exact HK.out | apply zZ | apply yA | apply yB | apply yC) | exact HK.out)) hk (.inl rfl)); have n1_ := zA (hb); have n2_ := zA (hi); clear HK; clear HB; clear HI0; have HK := n0_; have HB := n1_; have HI0 := n2_; clear n0_ n1_ n2_; (try clear hb); (try clear hb2); (try clear hk); (try clear hi)))
 go_ret
 exact ⟨by first | rfl | (simp [errW_none, errW_some] <;> rfl) | (simp [*, errW_none, errW_some] <;> rfl), by repeat (first | (with_reducible first | exact HI0.out | apply IsS150.alloc | apply IsS150.drewN | apply IsS150.drew | apply IsS150.set_1 | apply IsS150.set_2) | exact HI0.out), by repeat (first | (with_reducible first | exact HB.out | apply zC | apply zB | apply zF | refine zE ?_ (IsS150.ge HI0.out)) | exact HB.out), by repeat (first | (with_reducible first | exact HK.out | apply zZ | apply yA | apply yB | apply yC) | exact HK.out)⟩
theorem spec_l01Cur_once.val (c : List Int) (hc : ∀ x ∈ c, 0 ≤ x ∧ x ≤ 255) (hl : c.length ≤ 1048576) (a s n : Int) (ha : 0 ≤ a) (ha2 : a ≤ 1000000000000) (hs0 : 0 ≤ s) (hs1 : s ≤ 65536) :
  ∃ b a' s', spec_l01Cur_once.f c a s n = some (b, a', s') ∧ a ≤ a' ∧ a' ≤ a + 2 ∧ 0 ≤ s' ∧ s' ≤ 65536 := by
 unfold spec_l01Cur_once.f
 obtain ⟨x, a', s', e, h1, h2, h3, h4, h5, h6⟩ := spec_l01Cur_pick.val c hc hl a s n ha ha2 hs0 hs1
 rw [e]
 exact ⟨_, a', s', rfl, h3, h4, h5, h6⟩
end Go.Proofs.Ytcjjmfpkhhdmlaa.G


namespace Go.Proofs.Ytcjjmfpkhhdmlaa.G
open Go.RowKit Go.Proofs.YtcjjmfpkhhdmlaaW.PrintWords Go.Proofs.YtcjjmfpkhhdmlaaW.PrintLast Go.Proofs.YtcjjmfpkhhdmlaaW.PrintMore
attribute [local go_sem] max2_int min2_int max_two min_two max_three min_three max_four min_four   -- for this text's walks alone
def EvP {α : Type} (g : Nat → Option α) (P : α → Prop) : Prop := ∃ r, Ev g r ∧ P r
theorem EvP.now {α : Type} {P : α → Prop} {r : α} (h : P r) : EvP (fun _ => some r) P := ⟨r, Ev.now r, h⟩
theorem EvP.ip {α : Type} {P : α → Prop} {c : Prop} [Decidable c] {g f : Nat → Option α} (hc : c) (h : EvP g P) : EvP (fun n => if c then g n else f n) P := by
 obtain ⟨r, h1, h2⟩ := h
 exact ⟨r, Ev.ip hc h1, h2⟩
theorem EvP.ng {α : Type} {P : α → Prop} {c : Prop} [Decidable c] {g f : Nat → Option α} (hc : ¬ c) (h : EvP f P) : EvP (fun n => if c then g n else f n) P := by
 obtain ⟨r, h1, h2⟩ := h
 exact ⟨r, Ev.ng hc h1, h2⟩
theorem EvP.either {α : Type} {P : α → Prop} {c : Prop} [Decidable c] {g f : Nat → Option α} (h1 : c → EvP g P) (h2 : ¬ c → EvP f P) : EvP (fun n => if c then g n else f n) P := by
 by_cases hc : c
 ·exact EvP.ip hc (h1 hc)
 ·exact EvP.ng hc (h2 hc)
theorem EvP.step {α : Type} {P : α → Prop} {g f : Nat → Option α} (h : ∀ k, g (k + 1) = f k) (hf : EvP f P) : EvP g P := by
 obtain ⟨r, h1, h2⟩ := hf
 exact ⟨r, Ev.step h h1, h2⟩
theorem EvP.bind {α β : Type} {Q : α → Prop} {P : β → Prop} {g : Nat → Option α} {f : Nat → α → Option β} (h : EvP g Q) (k : ∀ a, Q a → EvP (fun n => f n a) P) : EvP (fun n => (g n).bind (f n)) P := by
 obtain ⟨a, h1, h2⟩ := h
 obtain ⟨r, h3, h4⟩ := k a h2
 exact ⟨r, Ev.bind h1 h3, h4⟩
theorem EvP.some {α β : Type} {P : β → Prop} {a : α} {f : Nat → α → Option β} (k : EvP (fun n => f n a) P) : EvP (fun n => (Option.some a).bind (f n)) P := by
 obtain ⟨r, h3, h4⟩ := k
 exact ⟨r, Ev.bind (Ev.c rfl) h3, h4⟩
theorem EvP.val {α β : Type} {P : β → Prop} {x : Option α} {a : α} {f : Nat → α → Option β} (h : x = Option.some a) (k : EvP (fun n => f n a) P) : EvP (fun n => x.bind (f n)) P := by
 obtain ⟨r, h3, h4⟩ := k
 exact ⟨r, Ev.bind (Ev.c h) h3, h4⟩
theorem EvP.mono {α : Type} {P Q : α → Prop} {g : Nat → Option α} (h : EvP g P) (hq : ∀ a, P a → Q a) : EvP g Q := by
 obtain ⟨r, h1, h2⟩ := h
 exact ⟨r, h1, hq r h2⟩
theorem EvP.of {α : Type} {P : α → Prop} {g : Nat → Option α} {r : α} (h : Ev g r) (hp : P r) : EvP g P := ⟨r, h, hp⟩
/-- the cursor, at place a of m at most -/
structure CurAt (c : List Int) (m : Nat) (a s : Int) : Prop where
 b : ∀ x ∈ c, 0 ≤ x ∧ x ≤ 255
 l : c.length ≤ 1048576
 a0 : 0 ≤ a
 a1 : a ≤ m
 s0 : 0 ≤ s
 s1 : s ≤ 65536
theorem CurAt.up {c : List Int} {m m' : Nat} {a s : Int} (h : CurAt c m a s) (hm : m ≤ m') : CurAt c m' a s := ⟨h.b, h.l, h.a0, by have := h.a1; omega, h.s0, h.s1⟩
theorem CurAt.pick {c : List Int} {m : Nat} {a s : Int} (h : CurAt c m a s) (hm : m ≤ 1000000000000) (n : Int) {β : Type} {P : β → Prop} {f : Nat → Int × Int × Int → Option β}
  (k : ∀ x a' s' : Int, 0 ≤ x → (x < n ∨ (n < 2 ∧ x = 0)) → CurAt c (m + 2) a' s' → EvP (fun q => f q (x, a', s')) P) : EvP (fun q => (spec_l01Cur_pick.f c a s n).bind (f q)) P := by
 have ha := h.a1
 obtain ⟨x, a', s', e, h1, h2, h3, h4, h5, h6⟩ := spec_l01Cur_pick.val c h.b h.l a s n h.a0 (by omega) h.s0 h.s1
 exact EvP.val e (k x a' s' h1 h2 ⟨h.b, h.l, by have := h.a0; omega, by omega, h5, h6⟩)
theorem CurAt.once {c : List Int} {m : Nat} {a s : Int} (h : CurAt c m a s) (hm : m ≤ 1000000000000) (n : Int) {β : Type} {P : β → Prop} {f : Nat → Bool × Int × Int → Option β}
  (k : ∀ (x : Bool) (a' s' : Int), CurAt c (m + 2) a' s' → EvP (fun q => f q (x, a', s')) P) : EvP (fun q => (spec_l01Cur_once.f c a s n).bind (f q)) P := by
 have ha := h.a1
 obtain ⟨x, a', s', e, h3, h4, h5, h6⟩ := spec_l01Cur_once.val c h.b h.l a s n h.a0 (by omega) h.s0 h.s1
 exact EvP.val e (k x a' s' ⟨h.b, h.l, by have := h.a0; omega, by omega, h5, h6⟩)
theorem CurAt.size {c : List Int} {m : Nat} {a s : Int} (h : CurAt c m a s) (hm : m ≤ 1000000000000) (n : Int) (hn : 0 ≤ n) (hn2 : n ≤ 1000000000) {β : Type} {P : β → Prop} {f : Nat → Int × Int × Int → Option β}
  (k : ∀ x a' s' : Int, 0 ≤ x → x ≤ n → CurAt c (m + 2) a' s' → EvP (fun q => f q (x, a', s')) P) : EvP (fun q => (spec_l01Cur_size.f c a s n).bind (f q)) P := by
 have ha := h.a1
 obtain ⟨x, a', s', e, h1, h2, h3, h4, h5, h6⟩ := spec_l01Cur_size.val c h.b h.l a s n h.a0 (by omega) h.s0 h.s1 hn hn2
 exact EvP.val e (k x a' s' h1 h2 ⟨h.b, h.l, by have := h.a0; omega, by omega, h5, h6⟩)
theorem CurAt.open_ {l : List Int} (hb : ∀ x ∈ l, 0 ≤ x ∧ x ≤ 255) (hl : l.length ≤ 1048576) {β : Type} {P : β → Prop} {f : Nat → List Int × Int × Int → Option β}
  (k : ∀ s : Int, CurAt l 0 0 s → EvP (fun q => f q (l, 0, s)) P) : EvP (fun q => (spec_l01Open.f l).bind (f q)) P :=
 EvP.val (by unfold spec_l01Open.f; rfl) (k (13 + ((l.length : Int) % 1000)) ⟨hb, hl, Int.le_refl _, Int.le_refl _, by omega, by omega⟩)
end Go.Proofs.Ytcjjmfpkhhdmlaa.G

