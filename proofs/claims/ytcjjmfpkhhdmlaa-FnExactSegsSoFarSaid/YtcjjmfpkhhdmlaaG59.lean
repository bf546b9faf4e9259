-- Written by gp.py (a program of this session's, over the kit's print). Not trusted: Lean checks it.
import Derived.Test.YtcjjmfpkhhdmlaaG0h
import Derived.Test.YtcjjmfpkhhdmlaaG134
import Derived.Test.YtcjjmfpkhhdmlaaGNext
import Derived.Test.YtcjjmfpkhhdmlaaGReader
import Derived.Test.YtcjjmfpkhhdmlaaGSegs
import Derived.BigRegion
import Derived.Deep.CutBlock
import Derived.Deep.CutRange
import Derived.Deep.LoopGhost
namespace Go.Proofs.Ytcjjmfpkhhdmlaa.G
open Go.RowKit Go.Proofs.YtcjjmfpkhhdmlaaW.PrintWords Go.Proofs.YtcjjmfpkhhdmlaaW.PrintLast Go.Proofs.YtcjjmfpkhhdmlaaW.PrintMore
attribute [local go_sem] max2_int min2_int max_two min_two max_three min_three max_four min_four   -- for this text's walks alone
set_option linter.unusedVariables false
set_option linter.unusedSimpArgs false

/-! ### impl_SegsSoFar: function 59 -/
--import Derived.BigRegion
--import Derived.Deep.CutBlock
--import Derived.Deep.CutRange
--import Derived.Deep.LoopGhost
/-! the segments that are whole so far: the program's loop, told -/
theorem un_pos (l : List Int) (h0 : l ≠ []) (h1 : l ≠ [255]) (h : rd l 0 ≠ 255 ∨ rd l 1 = 0) : 1 ≤ (un l).2 := by
  match l, h0, h1, h with
  | [], h0, _, _ => exact absurd rfl h0
  | [x], _, h1, _ =>
    have hx : x ≠ 255 := fun e => h1 (by rw [e])
    rw [un_ne x [] hx]; simp
  | x :: y :: t, _, _, h =>
    by_cases hx : x = 255
    · subst hx
      have hy : y = 0 := by simpa [rd] using h
      subst hy
      rw [un_two]; simp
    · rw [un_ne x _ hx]; simp
theorem nxt_facts (b : List Int) (at_ : Nat) (l : List S131) (hat : at_ ≤ b.length) (hl : l.length ≤ 300) :
    (nxt b at_ l).2.2.2.1 ≤ b.length ∧ (nxt b at_ l).2.2.2.2.length ≤ 300 ∧ ((nxt b at_ l).2.1 = 0 → (nxt b at_ l).1 = false → at_ < (nxt b at_ l).2.2.2.1) := by
  have hrl : (b.drop at_).length = b.length - at_ := List.length_drop
  obtain ⟨rest, hrest⟩ : ∃ rest, rest = b.drop at_ := ⟨_, rfl⟩
  have hm1 : markM rest ≠ 0 → 2 ≤ rest.length := by
    intro hm
    unfold markM at hm
    match rest, hm with
    | [], hm => simp [rd] at hm
    | [x], hm => simp [rd] at hm
    | x :: y :: t, _ => simp
  unfold nxt
  rw [← hrest] at hrl ⊢
  by_cases he : rest = [] ∨ rest = [255]
  · rw [if_pos he]; exact ⟨hat, hl, fun h => by simp at h⟩
  rw [if_neg he]
  by_cases h254 : markM rest = 254
  · rw [if_pos h254]
    have := hm1 (by omega)
    exact ⟨by simp only []; omega, hl, fun _ h => by simp at h⟩
  rw [if_neg h254]
  by_cases hb : badM (markM rest) l = true
  · rw [if_pos hb]; exact ⟨hat, hl, fun h => by simp at h⟩
  rw [if_neg hb]
  by_cases h3 : l.length = 300
  · rw [if_pos h3]; exact ⟨hat, hl, fun h => by simp at h⟩
  rw [if_neg h3]
  by_cases hm0 : markM rest = 0
  · rw [if_pos hm0]
    by_cases h20 : 20000 < (un rest).1.length
    · rw [if_pos h20]; exact ⟨hat, hl, fun h => by simp at h⟩
    · rw [if_neg h20]
      have h1 := un_le rest
      have h2 : 1 ≤ (un rest).2 := un_pos rest (fun e => he (.inl e)) (fun e => he (.inr e)) (by unfold markM at hm0; by_cases hc : rd rest 0 ≠ 255 ∨ rd rest 1 = 0; exact hc; rw [if_neg hc] at hm0; exact .inr hm0)
      exact ⟨by simp only []; omega, by simp; omega, fun _ _ => by simp only []; omega⟩
  rw [if_neg hm0]
  have hr2 := hm1 hm0
  by_cases hi : isRest (markM rest) = true
  · rw [if_pos hi]; exact ⟨by simp only []; omega, by simp; omega, fun _ _ => by simp only []; omega⟩
  rw [if_neg hi]
  by_cases h4 : rest.length < 4
  · rw [if_pos h4]; exact ⟨hat, hl, fun h => by simp at h⟩
  rw [if_neg h4]
  by_cases h20 : 20000 < lenM rest
  · rw [if_pos h20]; exact ⟨hat, hl, fun h => by simp at h⟩
  rw [if_neg h20]
  by_cases h4n : (rest.length : Int) < 4 + lenM rest
  · rw [if_pos h4n]; exact ⟨hat, hl, fun h => by simp at h⟩
  rw [if_neg h4n]
  exact ⟨by simp only []; omega, by simp; omega, fun _ _ => by simp only []; omega⟩
/-- the program's loop -/
def sfI (b : List Int) : Nat → Nat → List S131 → List S131 × Bool × Int × Int
  | 0, _, l => (l, false, 0, 0)
  | n + 1, at_, l =>
    if (nxt b at_ l).2.1 = 3 then (if mayRestM (nxt b at_ l).2.2.2.2 = true ∧ b.length - (nxt b at_ l).2.2.2.1 < 2 then ((nxt b at_ l).2.2.2.2.dropLast, false, 0, 0) else ((nxt b at_ l).2.2.2.2, false, 0, 0))
    else if (nxt b at_ l).2.1 ≠ 0 then ((nxt b at_ l).2.2.2.2, false, (nxt b at_ l).2.1, (nxt b at_ l).2.2.1)
    else if (nxt b at_ l).1 = true then (if (nxt b at_ l).2.2.2.1 < b.length then ((nxt b at_ l).2.2.2.2, true, 7, ((nxt b at_ l).2.2.2.1 : Int)) else ((nxt b at_ l).2.2.2.2, true, 0, 0))
    else sfI b n (nxt b at_ l).2.2.2.1 (nxt b at_ l).2.2.2.2
def soFarM (b : List Int) : List S131 × Bool × Int × Int :=
  if 60000 < b.length then ([], false, 1, 0) else if b.length = 0 ∨ (b.length = 1 ∧ rd b 0 = 84) then ([], false, 0, 0)
  else if b.length < 2 ∨ rd b 0 ≠ 84 ∨ rd b 1 ≠ 83 then ([], false, 2, 0) else sfI b (b.length + 1) 2 []
def impl_SegsSoFar.f (l0 : List Int) : Option (List S131 × Bool × Int × Int) := if isB l0 ∧ l0.length ≤ 1048576 then some (soFarM l0) else none
theorem SegK.alloc {w0 W : World} {g gq : Nat} {A : Option Addr} {c : Nat} {b : List Int} {at_ : Nat} {l : List S131} (h : SegK w0 W g gq A c b at_ l) (o : Obj) : SegK w0 (W.alloc o) g gq A c b at_ l := by
  obtain ⟨h1, v, h2, h3, h4⟩ := h
  exact ⟨below_alloc h1 o, v, blk_alloc h2 o, Kd.S_alloc h3 o, blk_alloc h4 o⟩
/-- the answer is laid down -/
theorem segTold {w0 W : World} {gq : Nat} {v : Value} {l : List S131} (h1 : Below w0.heap.size w0 W) (h3 : Kd.S k131 131 W w0.heap.size (fun _ => True) v l) {x y : Value} (h4 : W.heap[gq]? = some (.cells #[x, y] 65 (0, 0))) (hg : w0.heap.size ≤ gq) (C P : Value) :
    Kd.S k131 131 ((W.setCell ⟨gq, 0, none⟩ C).setCell ⟨gq, 1, none⟩ P) w0.heap.size (fun _ => True) v l ∧ Below w0.heap.size w0 ((W.setCell ⟨gq, 0, none⟩ C).setCell ⟨gq, 1, none⟩ P) ∧ ((W.setCell ⟨gq, 0, none⟩ C).setCell ⟨gq, 1, none⟩ P).heap[gq]? = some (.cells #[C, P] 65 (0, 0)) :=
  ⟨Kd.S_mono (Kd.S_far (p := ⟨gq, 1, none⟩) (Kd.S_far (p := ⟨gq, 0, none⟩) (Kd.S_types h3 h4 (by decide)) (fun k hk => hk.2) _) (fun k hk => hk.2) _) (fun _ _ => trivial), below_set (below_set h1 hg) hg, blk_set (blk_set h4 0 C) 1 P⟩
set_option maxRecDepth 100000 in
set_option maxHeartbeats 4000000 in
theorem impl_SegsSoFar.calls (A0 : Option Addr) (c0 : Nat) (l0 : List Int) (r1 : List S131) (r2 : Bool) (r3 : Int) (r4 : Int) (w : World) (hr0 : Kd.C (Kd.int .u8) w A0 l0.length l0) (hc0 : l0.length ≤ c0) (h : impl_SegsSoFar.f l0 = some (r1, r2, r3, r4)) :
    Calls Try.prog 59 #[.slice A0 l0.length c0] w fun e w' => ∃ v0_ : Value, e = .returned (.tuple #[v0_, .bool r2, .agg #[.int .i64 r3, .int .i64 r4]]) ∧ Kd.S k131 131 w' w.heap.size (fun _ => True) v0_ r1 ∧ Below w.heap.size w w' := by
  unfold impl_SegsSoFar.f at h
  split at h
  · rename_i hcond
    obtain ⟨hbb, hlen⟩ := hcond
    have HBB := Aside0.mk (isB_all hbb)
    have HH := Aside0.mk (Option.some.inj h)
    have HR0 := Aside0.mk hr0
    have HC0 := Aside0.mk hc0
    clear h hr0 hc0 hbb
    go_enter Try.func59, Try.ntmps59
    go_upto_region 1 with (fail)
    have hq := blk_new w (Obj.cells #[.int .i64 0, .int .i64 0] 65)
    have HB1 := Aside0.mk (below_alloc (Below.refl w.heap.size w) (Obj.cells #[.int .i64 0, .int .i64 0] 65))
    generalize hgqe : w.heap.size = gq at hq ⊢
    generalize w.alloc (Obj.cells #[.int .i64 0, .int .i64 0] 65) = W1 at hq HB1 ⊢
    have r0 := blk_cell hq 0
    have r1c := blk_cell hq 1
    simp at r0 r1c
    have f0 := blk_frozen hq 0
    have f1 := blk_frozen hq 1
    have HQ := Aside0.mk hq
    have HGQ := Aside0.mk hgqe
    have hgq : w.heap.size ≤ gq := by omega
    clear hq hgqe
    by_cases h1 : 60000 < l0.length
    · have z1 : decide ((60000 : Int) < (l0.length : Int)) = true := decide_eq_true (by omega)
      have hh := HH.out
      rw [show soFarM l0 = ([], false, 1, 0) by unfold soFarM; rw [if_pos h1]] at hh
      injection hh with t1 t2
      injection t2 with t2 t3
      injection t3 with t3 t4
      subst t1; subst t2; subst t3; subst t4
      go_wp2
      obtain ⟨e0_, e1_, e2_⟩ := segTold HB1.out (Kd.S_nil _ _ _ _ _) HQ.out hgq (.int .i64 1) (.int .i64 0)
      refine bodyPost_ret (results_list (rs := [.tmp 2, .tmp 3, .cell 4 65]) rfl (by simp) (.tmp (.tmp (.cell gq 65 #[.int .i64 1, .int .i64 0] (0, 0) _ rfl (by exact e2_) Try.underlying65 rfl (by kernel_rfl) .nil)))) rfl ?_
      exact ⟨_, rfl, by first | exact e0_ | exact Kd.S_drew e0_, by first | exact e1_ | exact below_drew e1_⟩
    · have z1 : decide ((60000 : Int) < (l0.length : Int)) = false := decide_eq_false (by omega)
      by_cases hL0 : l0.length = 0
      · have z2 : ((l0.length : Int) == 0) = true := by rw [beq_iff_eq]; omega
        have HL0 := Aside0.mk hL0
        clear hL0
        have hh := HH.out
        rw [show soFarM l0 = ([], false, 0, 0) by unfold soFarM; rw [if_neg h1, if_pos (.inl HL0.out)]] at hh
        injection hh with t1 t2
        injection t2 with t2 t3
        injection t3 with t3 t4
        subst t1; subst t2; subst t3; subst t4
        go_wp2
        obtain ⟨e0_, e1_, e2_⟩ := segTold HB1.out (Kd.S_nil _ _ _ _ _) HQ.out hgq (.int .i64 0) (.int .i64 0)
        refine bodyPost_ret (results_list (rs := [.tmp 2, .tmp 3, .cell 4 65]) rfl (by simp) (.tmp (.tmp (.cell gq 65 #[.int .i64 0, .int .i64 0] (0, 0) _ rfl (by exact e2_) Try.underlying65 rfl (by kernel_rfl) .nil)))) rfl ?_
        exact ⟨_, rfl, by first | exact e0_ | exact Kd.S_drew e0_, by first | exact e1_ | exact below_drew e1_⟩
      · have z2 : ((l0.length : Int) == 0) = false := by rw [beq_eq_false_iff_ne]; omega
        obtain ⟨ad, e1, hx0⟩ := Kd.at_int (Kd.C_below HR0.out HB1.out) 0 (by omega) (by omega)
        cases e1
        rw [show (0 : Int).toNat = 0 from rfl, Addr.add_zero'] at hx0
        obtain ⟨y0, hy0⟩ : ∃ y0, y0 = rd l0 0 := ⟨_, rfl⟩
        rw [← hy0] at hx0
        have HY0 := Aside0.mk hy0
        clear hy0
        by_cases hL1 : l0.length = 1
        · have z3 : ((l0.length : Int) == 1) = true := by rw [beq_iff_eq]; omega
          have z4 : decide ((l0.length : Int) < 2) = true := decide_eq_true (by omega)
          have HL1 := Aside0.mk hL1
          clear hL1
          by_cases h84 : y0 = 84
          · subst h84
            have hh := HH.out
            rw [show soFarM l0 = ([], false, 0, 0) by unfold soFarM; rw [if_neg h1, if_pos (.inr ⟨HL1.out, HY0.out.symm⟩)]] at hh
            injection hh with t1 t2
            injection t2 with t2 t3
            injection t3 with t3 t4
            subst t1; subst t2; subst t3; subst t4
            go_wp2
            obtain ⟨e0_, e1_, e2_⟩ := segTold HB1.out (Kd.S_nil _ _ _ _ _) HQ.out hgq (.int .i64 0) (.int .i64 0)
            refine bodyPost_ret (results_list (rs := [.tmp 2, .tmp 3, .cell 4 65]) rfl (by simp) (.tmp (.tmp (.cell gq 65 #[.int .i64 0, .int .i64 0] (0, 0) _ rfl (by exact e2_) Try.underlying65 rfl (by kernel_rfl) .nil)))) rfl ?_
            exact ⟨_, rfl, by first | exact e0_ | exact Kd.S_drew e0_, by first | exact e1_ | exact below_drew e1_⟩
          · have z5 : (y0 == 84) = false := by rw [beq_eq_false_iff_ne]; exact h84
            have hh := HH.out
            rw [show soFarM l0 = ([], false, 2, 0) by unfold soFarM; rw [if_neg h1, if_neg (fun hc => hc.elim hL0 (fun h => h84 (HY0.out.trans h.2))), if_pos (.inl (by have := HL1.out; omega))]] at hh
            injection hh with t1 t2
            injection t2 with t2 t3
            injection t3 with t3 t4
            subst t1; subst t2; subst t3; subst t4
            go_wp2
            obtain ⟨e0_, e1_, e2_⟩ := segTold HB1.out (Kd.S_nil _ _ _ _ _) HQ.out hgq (.int .i64 2) (.int .i64 0)
            refine bodyPost_ret (results_list (rs := [.tmp 2, .tmp 3, .cell 4 65]) rfl (by simp) (.tmp (.tmp (.cell gq 65 #[.int .i64 2, .int .i64 0] (0, 0) _ rfl (by exact e2_) Try.underlying65 rfl (by kernel_rfl) .nil)))) rfl ?_
            exact ⟨_, rfl, by first | exact e0_ | exact Kd.S_drew e0_, by first | exact e1_ | exact below_drew e1_⟩
        · have z3 : ((l0.length : Int) == 1) = false := by rw [beq_eq_false_iff_ne]; omega
          have z4 : decide ((l0.length : Int) < 2) = false := decide_eq_false (by omega)
          have hn2 : ¬ (l0.length = 0 ∨ l0.length = 1 ∧ rd l0 0 = 84) := fun hc => hc.elim hL0 (fun h => hL1 h.1)
          have HN2 := Aside0.mk hn2
          obtain ⟨ad', e2, hx1⟩ := Kd.at_int (Kd.C_below HR0.out HB1.out) 1 (by omega) (by omega)
          cases e2
          have ea := add_field ad 0 1 (by omega)
          rw [Nat.zero_add, Addr.add_zero'] at ea
          rw [show (1 : Int).toNat = 1 from rfl, ea] at hx1
          obtain ⟨y1, hy1⟩ : ∃ y1, y1 = rd l0 1 := ⟨_, rfl⟩
          rw [← hy1] at hx1
          have HY1 := Aside0.mk hy1
          clear hy1 hn2 ea
          by_cases h84 : y0 = 84
          · subst h84
            by_cases h83 : y1 = 83
            · subst h83
              have HIS := Aside0.mk (show sfI l0 (l0.length + 1) 2 [] = (r1, r2, r3, r4) by
                have hh := HH.out
                rwa [show soFarM l0 = sfI l0 (l0.length + 1) 2 [] by unfold soFarM; rw [if_neg h1, if_neg HN2.out, if_neg (by rw [← HY0.out, ← HY1.out]; simp; omega)]] at hh)
              have z6 : ((83 : Int) != 83) = false := by decide
              have hl60 : l0.length ≤ 60000 := by omega
              have hl2 : 2 ≤ l0.length := by omega
              go_upto_region 7 with (fail)
              have kg := blk_new W1 (Obj.cells #[.slice (some ad) l0.length c0, .int .i64 2, .slice none 0 0] 136)
              have HSG := Aside0.mk (show SegK w (W1.alloc (Obj.cells #[.slice (some ad) l0.length c0, .int .i64 2, .slice none 0 0] 136)) W1.heap.size gq (some ad) c0 l0 2 [] from ⟨below_alloc HB1.out _, .slice none 0 0, kg, Kd.S_nil _ _ _ _ _, blk_alloc HQ.out _⟩)
              have hqg : gq ≠ W1.heap.size := by have := blk_lt HQ.out; omega
              have hg : w.heap.size ≤ W1.heap.size := HB1.out.size
              clear kg
              go_wp2
              generalize W1.heap.size = g at HSG hqg hg ⊢
              generalize W1.alloc (Obj.cells #[.slice (some ad) l0.length c0, .int .i64 2, .slice none 0 0] 136) = W3 at HSG ⊢
              clear HB1 HQ r0 r1c f0 f1 hx0 hx1 HH HN2 z1 z2 z3 z4 z6
              go_loopg [] (l0.length + 1) (fun kq w' => ∃ (at_ : Nat) (l : List S131), at_ ≤ l0.length ∧ l.length ≤ 300 ∧ l0.length < at_ + kq ∧ Aside0 (SegK w w' g gq (some ad) c0 l0 at_ l) ∧ Aside0 (sfI l0 kq at_ l = (r1, r2, r3, r4)))
              case atStart => exact ⟨2, [], hl2, by simp, by omega, HSG, HIS⟩
              case round =>
                clear HSG HIS
                obtain ⟨at_, l, hat, hl, hfu, HSG, HIS⟩ := hrel
                cases gk with
                | zero => omega
                | succ k1 =>
                obtain ⟨hn1, hn2, hn3⟩ := nxt_facts l0 at_ l hat hl
                have his := HIS.out
                rw [sfI] at his
                go_wp2_with fail
                refine (next_calls w _ g gq (some ad) c0 l0 at_ l HSG.out hg hqg HR0.out HC0.out hat hl60 HBB.out hl).mono ?_
                rintro e_ w2 ⟨rfl, hs⟩
                obtain ⟨fin_, hfin⟩ : ∃ q, q = (nxt l0 at_ l).1 := ⟨_, rfl⟩
                obtain ⟨code, hcode⟩ : ∃ q, q = (nxt l0 at_ l).2.1 := ⟨_, rfl⟩
                obtain ⟨pos, hpos⟩ : ∃ q, q = (nxt l0 at_ l).2.2.1 := ⟨_, rfl⟩
                obtain ⟨at2, hat2⟩ : ∃ q, q = (nxt l0 at_ l).2.2.2.1 := ⟨_, rfl⟩
                obtain ⟨l2, hl2_⟩ : ∃ q, q = (nxt l0 at_ l).2.2.2.2 := ⟨_, rfl⟩
                rw [← hfin, ← hcode, ← hpos, ← hat2, ← hl2_] at his
                rw [← hat2, ← hl2_] at hs
                rw [← hat2] at hn1 hn3
                rw [← hl2_] at hn2
                rw [← hcode, ← hfin] at hn3
                rw [← hfin, ← hcode, ← hpos]
                have HS2 := Aside0.mk hs
                have HIS2 := Aside0.mk his
                have HN3 := Aside0.mk hn3
                clear hs his hfin hcode hpos hat2 hl2_ HSG HIS hn3
                go_upto_region 9 with (fail)
                obtain ⟨hb2, v2, hk2, hsl, hq2⟩ := HS2.out
                obtain ⟨Al, cl, el⟩ := Kd.S_slice hsl
                subst el
                have hf := blk_new w2 (Obj.cells #[.int .i64 code, .int .i64 pos] 65)
                have HB5 := Aside0.mk (below_alloc hb2 (Obj.cells #[.int .i64 code, .int .i64 pos] 65))
                have HK5 := Aside0.mk (blk_alloc hk2 (Obj.cells #[.int .i64 code, .int .i64 pos] 65))
                have HS5 := Aside0.mk (Kd.S_alloc hsl (Obj.cells #[.int .i64 code, .int .i64 pos] 65))
                have HQ5 := Aside0.mk (blk_alloc hq2 (Obj.cells #[.int .i64 code, .int .i64 pos] 65))
                have hqf : gq ≠ w2.heap.size := by have := blk_lt hq2; omega
                clear hb2 hk2 hsl hq2 HS2
                generalize w2.heap.size = gf at hf hqf ⊢
                generalize w2.alloc (Obj.cells #[.int .i64 code, .int .i64 pos] 65) = W5 at hf HB5 HK5 HS5 HQ5 ⊢
                have h0 := blk_cell hf 0
                have h1c := blk_cell hf 1
                simp at h0 h1c
                have s1 := blk_cell HK5.out 1
                have s2 := blk_cell HK5.out 2
                simp at s1 s2
                have q4 := blk_frozen HK5.out 2
                have r0 := blk_cell HQ5.out 0
                have r1c := blk_cell HQ5.out 1
                simp at r0 r1c
                have f0 := blk_frozen HQ5.out 0
                have f1 := blk_frozen HQ5.out 1
                have HF := Aside0.mk hf
                clear hf
                by_cases hc3 : code = 3
                · subst hc3
                  have HMV := Aside0.mk (mayRest_val l2 hn2)
                  have HC5 := Aside0.mk (Kd.S_reads' HS5.out).2.2
                  have HL5 := Aside0.mk (Kd.S_reads' HS5.out).2.1
                  cases hmr : mayRestM l2 with
                  | false =>
                    rw [hmr] at HMV
                    have his := HIS2.out
                    rw [if_pos rfl, if_neg (fun h => by rw [hmr] at h; exact absurd h.1 (by decide))] at his
                    injection his with t1 t2
                    injection t2 with t2 t3
                    injection t3 with t3 t4
                    subst t1; subst t2; subst t3; subst t4
                    clear hmr
                    go_wp2_with fail
                    refine (impl_mayRestart.calls Al cl l2 false _ (by repeat (first | exact HC5.out | (with_reducible refine Kd.C_drewN ?_ _) | (with_reducible refine Kd.C_drew ?_))) HL5.out HMV.out).mono ?_
                    rintro e_ w_ ⟨rfl, ⟨n1, rfl⟩⟩
                    go_wp2
                    obtain ⟨e0_, e1_, e2_⟩ := segTold (pw_below_drewN HB5.out n1) (Kd.S_drewN HS5.out n1) (show (W5.drewN n1).heap[gq]? = _ from HQ5.out) hgq (.int .i64 0) (.int .i64 0)
                    refine bodyPost_ret (results_list (rs := [.tmp 2, .tmp 3, .cell 4 65]) rfl (by simp) (.tmp (.tmp (.cell gq 65 #[.int .i64 0, .int .i64 0] (0, 0) _ rfl (by exact e2_) Try.underlying65 rfl (by kernel_rfl) .nil)))) rfl ?_
                    exact ⟨_, rfl, by first | exact e0_ | exact Kd.S_drew e0_, by first | exact e1_ | exact below_drew e1_⟩
                  | true =>
                    rw [hmr] at HMV
                    by_cases hsh : l0.length - at2 < 2
                    · have hne : l2 ≠ [] := by intro e; rw [e] at hmr; simp [mayRestM] at hmr
                      have hl2p : 0 < l2.length := List.length_pos_iff.2 hne
                      have hcl5 := HL5.out
                      have zs : decide ((l0.length : Int) - (at2 : Int) < 2) = true := decide_eq_true (by omega)
                      have his := HIS2.out
                      rw [if_pos rfl, if_pos ⟨hmr, hsh⟩] at his
                      injection his with t1 t2
                      injection t2 with t2 t3
                      injection t3 with t3 t4
                      subst t1; subst t2; subst t3; subst t4
                      clear hmr hne
                      go_wp2_with fail
                      refine (impl_mayRestart.calls Al cl l2 true _ (by repeat (first | exact HC5.out | (with_reducible refine Kd.C_drewN ?_ _) | (with_reducible refine Kd.C_drew ?_))) HL5.out HMV.out).mono ?_
                      rintro e_ w_ ⟨rfl, ⟨n1, rfl⟩⟩
                      go_wp2
                      have hz8 : Kd.S k131 131 ((W5.drewN n1).setCell ⟨g, 2, none⟩ (.slice Al (l2.length - 1) cl)) w.heap.size (fun _ => True) (.slice Al (l2.length - 1) cl) l2.dropLast := by
                        rw [List.dropLast_eq_take]
                        exact Kd.S_set (Kd.S_take (Kd.S_drewN HS5.out n1) (by omega)) (show (W5.drewN n1).heap[g]? = _ from HK5.out) (by decide) 2 _
                      have hq8 := blk_far (w := W5.drewN n1) HQ5.out (p := ⟨g, 2, none⟩) hqg (.slice Al (l2.length - 1) cl)
                      have hb8 : Below w.heap.size w ((W5.drewN n1).setCell ⟨g, 2, none⟩ (.slice Al (l2.length - 1) cl)) := below_set (pw_below_drewN HB5.out n1) hg
                      obtain ⟨e0_, e1_, e2_⟩ := segTold hb8 hz8 hq8 hgq (.int .i64 0) (.int .i64 0)
                      refine bodyPost_ret (results_list (rs := [.tmp 2, .tmp 3, .cell 4 65]) rfl (by simp) (.tmp (.tmp (.cell gq 65 #[.int .i64 0, .int .i64 0] (0, 0) _ rfl (by exact e2_) Try.underlying65 rfl (by kernel_rfl) .nil)))) rfl ?_
                      exact ⟨_, rfl, by first | exact e0_ | exact Kd.S_drew e0_, by first | exact e1_ | exact below_drew e1_⟩
                    · have zs : decide ((l0.length : Int) - (at2 : Int) < 2) = false := decide_eq_false (by omega)
                      have his := HIS2.out
                      rw [if_pos rfl, if_neg (fun h => hsh h.2)] at his
                      injection his with t1 t2
                      injection t2 with t2 t3
                      injection t3 with t3 t4
                      subst t1; subst t2; subst t3; subst t4
                      clear hmr
                      go_wp2_with fail
                      refine (impl_mayRestart.calls Al cl l2 true _ (by repeat (first | exact HC5.out | (with_reducible refine Kd.C_drewN ?_ _) | (with_reducible refine Kd.C_drew ?_))) HL5.out HMV.out).mono ?_
                      rintro e_ w_ ⟨rfl, ⟨n1, rfl⟩⟩
                      go_wp2
                      obtain ⟨e0_, e1_, e2_⟩ := segTold (pw_below_drewN HB5.out n1) (Kd.S_drewN HS5.out n1) (show (W5.drewN n1).heap[gq]? = _ from HQ5.out) hgq (.int .i64 0) (.int .i64 0)
                      refine bodyPost_ret (results_list (rs := [.tmp 2, .tmp 3, .cell 4 65]) rfl (by simp) (.tmp (.tmp (.cell gq 65 #[.int .i64 0, .int .i64 0] (0, 0) _ rfl (by exact e2_) Try.underlying65 rfl (by kernel_rfl) .nil)))) rfl ?_
                      exact ⟨_, rfl, by first | exact e0_ | exact Kd.S_drew e0_, by first | exact e1_ | exact below_drew e1_⟩
                · have z3 : (code == 3) = false := by rw [beq_eq_false_iff_ne]; exact hc3
                  by_cases hc0 : code = 0
                  · subst hc0
                    cases fin_ with
                    | true =>
                      by_cases hlt : at2 < l0.length
                      · have zl : decide ((at2 : Int) < (l0.length : Int)) = true := decide_eq_true (by omega)
                        have his := HIS2.out
                        rw [if_neg hc3, if_neg (by simp), if_pos rfl, if_pos hlt] at his
                        injection his with t1 t2
                        injection t2 with t2 t3
                        injection t3 with t3 t4
                        subst t1; subst t2; subst t3; subst t4
                        go_wp2
                        go_region
                        go_wp2
                        obtain ⟨e0_, e1_, e2_⟩ := segTold HB5.out HS5.out HQ5.out hgq (.int .i64 7) (.int .i64 at2)
                        refine bodyPost_ret (results_list (rs := [.tmp 2, .tmp 3, .cell 4 65]) rfl (by simp) (.tmp (.tmp (.cell gq 65 #[.int .i64 7, .int .i64 at2] (0, 0) _ rfl (by exact e2_) Try.underlying65 rfl (by kernel_rfl) .nil)))) rfl ?_
                        exact ⟨_, rfl, by first | exact e0_ | exact Kd.S_drew e0_, by first | exact e1_ | exact below_drew e1_⟩
                      · have zl : decide ((at2 : Int) < (l0.length : Int)) = false := decide_eq_false (by omega)
                        have his := HIS2.out
                        rw [if_neg hc3, if_neg (by simp), if_pos rfl, if_neg hlt] at his
                        injection his with t1 t2
                        injection t2 with t2 t3
                        injection t3 with t3 t4
                        subst t1; subst t2; subst t3; subst t4
                        go_wp2
                        obtain ⟨e0_, e1_, e2_⟩ := segTold HB5.out HS5.out HQ5.out hgq (.int .i64 0) (.int .i64 0)
                        refine bodyPost_ret (results_list (rs := [.tmp 2, .tmp 3, .cell 4 65]) rfl (by simp) (.tmp (.tmp (.cell gq 65 #[.int .i64 0, .int .i64 0] (0, 0) _ rfl (by exact e2_) Try.underlying65 rfl (by kernel_rfl) .nil)))) rfl ?_
                        exact ⟨_, rfl, by first | exact e0_ | exact Kd.S_drew e0_, by first | exact e1_ | exact below_drew e1_⟩
                    | false =>
                      have hn4 := HN3.out rfl rfl
                      have his := HIS2.out
                      rw [if_neg hc3, if_neg (by simp), if_neg (by simp)] at his
                      have HIS3 := Aside0.mk his
                      clear his
                      go_wp2
                      go_roundg k1
                      case rel => exact ⟨at2, l2, hn1, hn2, by omega, ⟨HB5.out, _, HK5.out, HS5.out, HQ5.out⟩, HIS3⟩
                      case measure => omega
                  · have z0 : (code != 0) = true := by simp [hc0]
                    have his := HIS2.out
                    rw [if_neg hc3, if_pos hc0] at his
                    injection his with t1 t2
                    injection t2 with t2 t3
                    injection t3 with t3 t4
                    subst t1; subst t2; subst t3; subst t4
                    go_wp2
                    go_region
                    go_wp2
                    obtain ⟨e0_, e1_, e2_⟩ := segTold HB5.out HS5.out HQ5.out hgq (.int .i64 code) (.int .i64 pos)
                    refine bodyPost_ret (results_list (rs := [.tmp 2, .tmp 3, .cell 4 65]) rfl (by simp) (.tmp (.tmp (.cell gq 65 #[.int .i64 code, .int .i64 pos] (0, 0) _ rfl (by exact e2_) Try.underlying65 rfl (by kernel_rfl) .nil)))) rfl ?_
                    exact ⟨_, rfl, by first | exact e0_ | exact Kd.S_drew e0_, by first | exact e1_ | exact below_drew e1_⟩
            · have z6 : (y1 != 83) = true := by simp [h83]
              have hh := HH.out
              rw [show soFarM l0 = ([], false, 2, 0) by unfold soFarM; rw [if_neg h1, if_neg HN2.out, if_pos (.inr (.inr (by rw [← HY1.out]; exact h83)))]] at hh
              injection hh with t1 t2
              injection t2 with t2 t3
              injection t3 with t3 t4
              subst t1; subst t2; subst t3; subst t4
              go_wp2
              obtain ⟨e0_, e1_, e2_⟩ := segTold HB1.out (Kd.S_nil _ _ _ _ _) HQ.out hgq (.int .i64 2) (.int .i64 0)
              refine bodyPost_ret (results_list (rs := [.tmp 2, .tmp 3, .cell 4 65]) rfl (by simp) (.tmp (.tmp (.cell gq 65 #[.int .i64 2, .int .i64 0] (0, 0) _ rfl (by exact e2_) Try.underlying65 rfl (by kernel_rfl) .nil)))) rfl ?_
              exact ⟨_, rfl, by first | exact e0_ | exact Kd.S_drew e0_, by first | exact e1_ | exact below_drew e1_⟩
          · have z5 : (y0 == 84) = false := by rw [beq_eq_false_iff_ne]; exact h84
            have z6 : (y0 != 84) = true := by simp [h84]
            have hh := HH.out
            rw [show soFarM l0 = ([], false, 2, 0) by unfold soFarM; rw [if_neg h1, if_neg HN2.out, if_pos (.inr (.inl (by rw [← HY0.out]; exact h84)))]] at hh
            injection hh with t1 t2
            injection t2 with t2 t3
            injection t3 with t3 t4
            subst t1; subst t2; subst t3; subst t4
            go_wp2
            obtain ⟨e0_, e1_, e2_⟩ := segTold HB1.out (Kd.S_nil _ _ _ _ _) HQ.out hgq (.int .i64 2) (.int .i64 0)
            refine bodyPost_ret (results_list (rs := [.tmp 2, .tmp 3, .cell 4 65]) rfl (by simp) (.tmp (.tmp (.cell gq 65 #[.int .i64 2, .int .i64 0] (0, 0) _ rfl (by exact e2_) Try.underlying65 rfl (by kernel_rfl) .nil)))) rfl ?_
            exact ⟨_, rfl, by first | exact e0_ | exact Kd.S_drew e0_, by first | exact e1_ | exact below_drew e1_⟩
  · cases h

end Go.Proofs.Ytcjjmfpkhhdmlaa.G
