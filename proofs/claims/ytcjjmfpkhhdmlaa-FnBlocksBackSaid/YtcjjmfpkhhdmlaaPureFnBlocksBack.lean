/- FnBlocksBack (P16): a plane is got back from its blocks, and from itself with more at its edges, for the planes drawn of any bytes. -/
import Derived.Test.YtcjjmfpkhhdmlaaG24
import Derived.Test.YtcjjmfpkhhdmlaaG25
import Derived.Test.YtcjjmfpkhhdmlaaG26
import Derived.Test.YtcjjmfpkhhdmlaaG27
import Derived.Test.YtcjjmfpkhhdmlaaG28
import Derived.Test.YtcjjmfpkhhdmlaaG29
import Derived.Test.YtcjjmfpkhhdmlaaG30
import Derived.Test.YtcjjmfpkhhdmlaaG31
import Derived.Test.YtcjjmfpkhhdmlaaG32
import Derived.Test.YtcjjmfpkhhdmlaaG33
import Derived.Test.YtcjjmfpkhhdmlaaG34
import Derived.Test.YtcjjmfpkhhdmlaaG4
import Derived.Test.YtcjjmfpkhhdmlaaG89
import Derived.Test.YtcjjmfpkhhdmlaaG91
import Derived.Test.YtcjjmfpkhhdmlaaG95
import Derived.Test.YtcjjmfpkhhdmlaaG98
import Derived.Test.YtcjjmfpkhhdmlaaGLib
namespace Go.Proofs.Ytcjjmfpkhhdmlaa.G
open Go.RowKit Go.Proofs.YtcjjmfpkhhdmlaaW.PrintWords Go.Proofs.YtcjjmfpkhhdmlaaW.PrintLast Go.Proofs.YtcjjmfpkhhdmlaaW.PrintMore
attribute [local go_sem] max2_int min2_int max_two min_two max_three min_three max_four min_four   -- for this text's walks alone
set_option linter.unusedVariables false
set_option linter.unusedSimpArgs false

theorem flat_get {α : Type} (f : Nat → List α) (n : Nat) (hf : ∀ y, (f y).length = n) (m : Nat) : ((List.range m).flatMap f).length = m * n ∧ ∀ y x, y < m → x < n → ((List.range m).flatMap f)[y * n + x]? = (f y)[x]? := by
  induction m with
  | zero => exact ⟨by simp, fun y x hy => by omega⟩
  | succ m ih =>
    have e : (List.range (m + 1)).flatMap f = (List.range m).flatMap f ++ f m := by simp [List.range_succ]
    rw [e]
    refine ⟨by rw [List.length_append, ih.1, hf, Nat.succ_mul], fun y x hy hx => ?_⟩
    by_cases h : y < m
    · have h1 : (y + 1) * n ≤ m * n := Nat.mul_le_mul_right _ h
      rw [Nat.succ_mul] at h1
      rw [List.getElem?_append_left (by rw [ih.1]; omega)]
      exact ih.2 y x h hx
    · obtain rfl : y = m := by omega
      rw [List.getElem?_append_right (by rw [ih.1]; omega), ih.1, Nat.add_sub_cancel_left]
theorem planeM_get (W H : Nat) (g : Nat → Nat → Int) (y x : Nat) (hy : y < H) (hx : x < W) : (planeM W H g)[y * W + x]? = some (g y x) := by
  unfold planeM
  rw [(flat_get (rowM W g) W (rowM_len W g) H).2 y x hy hx]
  unfold rowM
  rw [List.getElem?_map, List.getElem?_range hx]; rfl
theorem planeM_rd (W H : Nat) (g : Nat → Nat → Int) (y x : Nat) (hy : y < H) (hx : x < W) : rd (planeM W H g) ((y : Int) * (W : Int) + (x : Int)) = g y x := by
  rw [show (y : Int) * (W : Int) + (x : Int) = ((y * W + x : Nat) : Int) by simp]
  unfold rd
  rw [Int.toNat_natCast, List.getD_eq_getElem?_getD, planeM_get W H g y x hy hx]; rfl
theorem planeM_eq (W H : Nat) (hW : 0 < W) (g : Nat → Nat → Int) (l : List Int) (hl : l.length = H * W) (h : ∀ y x, y < H → x < W → g y x = rd l ((y : Int) * (W : Int) + (x : Int))) : planeM W H g = l := by
  apply List.ext_getElem?
  intro i
  by_cases hi : i < H * W
  · have hy : i / W < H := Nat.div_lt_of_lt_mul (by rw [Nat.mul_comm]; exact hi)
    have hx : i % W < W := Nat.mod_lt _ hW
    have e : i / W * W + i % W = i := Nat.div_add_mod' i W
    have := planeM_get W H g (i / W) (i % W) hy hx
    rw [e] at this
    rw [this, h _ _ hy hx, show ((i / W : Nat) : Int) * (W : Int) + ((i % W : Nat) : Int) = ((i / W * W + i % W : Nat) : Int) by simp, e, rd_nat l i (by omega), List.getElem?_eq_getElem (by omega)]
  · rw [List.getElem?_eq_none (by rw [planeM_len]; omega), List.getElem?_eq_none (by omega)]
theorem allW_get (lo hi : Int) (l : List Int) (h : allW lo hi l = true) (i : Nat) (hi2 : i < l.length) : lo ≤ l[i] ∧ l[i] ≤ hi := by
  unfold allW at h
  have := List.all_eq_true.1 h _ (List.getElem_mem hi2)
  simpa using this
theorem allW_plane (W H : Nat) (g : Nat → Nat → Int) (h : ∀ y x, y < H → x < W → 0 ≤ g y x ∧ g y x ≤ 4095) : allW 0 4095 (planeM W H g) = true := by
  unfold allW
  rw [List.all_eq_true]
  intro v hv
  unfold planeM rowM at hv
  rw [List.mem_flatMap] at hv
  obtain ⟨y, hy, hv⟩ := hv
  rw [List.mem_map] at hv
  obtain ⟨x, hx, rfl⟩ := hv
  have := h y x (by simpa using hy) (by simpa using hx)
  simp [this]
/-- the sample of a plane, from its blocks -/
theorem join_cut (l : List Int) (n m : Nat) (hl : l.length = (8 * m) * (8 * n)) (y x : Nat) (hy : y < 8 * m) (hx : x < 8 * n) : joinG (cutM l (8 * (n : Int)) n m) (8 * (n : Int)) y x = rd l ((y : Int) * (8 * (n : Int)) + (x : Int)) := by
  unfold joinG
  have hg := (flat_get (cutRow l (8 * (n : Int)) n) n (fun y => cutRow_len l _ n y) m).2 (y / 8) (x / 8) (by omega) (by omega)
  have hrow : (cutM l (8 * (n : Int)) n m)[y / 8 * n + x / 8]? = some (planeM 8 8 (cutG l (8 * (n : Int)) (y / 8) (x / 8))) := by
    unfold cutM
    rw [hg]
    unfold cutRow
    rw [List.getElem?_map, List.getElem?_range (by omega)]; rfl
  have e : rd_L3 (cutM l (8 * (n : Int)) n m) (((y / 8 : Nat) : Int) * (8 * (n : Int) / 8) + ((x / 8 : Nat) : Int)) = planeM 8 8 (cutG l (8 * (n : Int)) (y / 8) (x / 8)) := by
    rw [show 8 * (n : Int) / 8 = (n : Int) by omega, show ((y / 8 : Nat) : Int) * (n : Int) + ((x / 8 : Nat) : Int) = ((y / 8 * n + x / 8 : Nat) : Int) by simp]
    unfold rd_L3
    rw [Int.toNat_natCast, List.getD_eq_getElem?_getD, hrow]; rfl
  rw [e]
  have := planeM_rd 8 8 (cutG l (8 * (n : Int)) (y / 8) (x / 8)) (y % 8) (x % 8) (by omega) (by omega)
  rw [show (((8 : Nat)) : Int) = 8 from rfl] at this
  rw [this]
  unfold cutG
  have e1 : 8 * ((y / 8 : Nat) : Int) + ((y % 8 : Nat) : Int) = (y : Int) := by omega
  have e2 : 8 * ((x / 8 : Nat) : Int) + ((x % 8 : Nat) : Int) = (x : Int) := by omega
  rw [e1, Int.add_assoc, e2]
theorem rd_4095 (l : List Int) (h : allW 0 4095 l = true) (i : Int) : 0 ≤ rd l i ∧ rd l i ≤ 4095 := by
  unfold rd
  rcases Nat.lt_or_ge i.toNat l.length with h2 | h2
  · rw [List.getD_eq_getElem?_getD, List.getElem?_eq_getElem h2, Option.getD_some]
    exact allW_get 0 4095 l h _ h2
  · rw [List.getD_eq_getElem?_getD, List.getElem?_eq_none h2, Option.getD_none]
    omega
theorem join_back (l : List Int) (w h : Int) (hok : cutOk l w h = true) : impl_JoinBlocks.f (cutM l w (w / 8).toNat (h / 8).toNat) w h = some l := by
  simp only [cutOk, Bool.and_eq_true, decide_eq_true_eq] at hok
  obtain ⟨hpl, m1, m2⟩ := hok
  obtain ⟨p1, p2, p3⟩ := plane_of hpl
  obtain ⟨s1, s2, s3, s4, s5⟩ := sides_of p1
  obtain ⟨n, hn⟩ : ∃ n : Nat, w = 8 * (n : Int) := ⟨(w / 8).toNat, by omega⟩
  obtain ⟨m, hm⟩ : ∃ m : Nat, h = 8 * (m : Int) := ⟨(h / 8).toNat, by omega⟩
  rw [show (w / 8).toNat = n by omega, show (h / 8).toNat = m by omega]
  have n128 : n ≤ 128 := by omega
  have m128 : m ≤ 128 := by omega
  have n1 : 1 ≤ n := by omega
  have hmn : m * n ≤ 128 * 128 := Nat.mul_le_mul m128 n128
  have hlen : l.length = (8 * m) * (8 * n) := by
    have : (l.length : Int) = (((8 * m) * (8 * n) : Nat) : Int) := by rw [p2, hn, hm, Int.mul_comm]; simp
    omega
  have hj : joinOk (cutM l w n m) w h = true := by
    unfold joinOk
    rw [p1, decide_eq_true m1, decide_eq_true m2, cutM_len]
    have e : ((m * n : Nat) : Int) = w * h / 64 := by
      rw [hn, hm, show (8 * (n : Int)) * (8 * (m : Int)) = 64 * ((m : Int) * (n : Int)) by rw [Int.mul_assoc, Int.mul_left_comm (n : Int) 8, ← Int.mul_assoc 8 8, Int.mul_comm (n : Int)]; rfl, Int.mul_ediv_cancel_left _ (by omega)]
      simp
    rw [decide_eq_true e]
    have hall : (cutM l w n m).all blkOk = true := by
      rw [List.all_eq_true]
      intro b hb
      unfold cutM cutRow at hb
      rw [List.mem_flatMap] at hb
      obtain ⟨y, hy, hb⟩ := hb
      rw [List.mem_map] at hb
      obtain ⟨x, hx, rfl⟩ := hb
      unfold blkOk
      rw [planeM_len, allW_plane 8 8 (cutG l w y x) (fun y2 x2 _ _ => rd_4095 l p3 _)]
      rfl
    rw [hall]; rfl
  unfold impl_JoinBlocks.f
  rw [if_pos (by rw [cutM_len]; omega), if_pos hj]
  congr 1
  subst hn hm
  rw [show (8 * (n : Int)).toNat = 8 * n by omega, show (8 * (m : Int)).toNat = 8 * m by omega]
  refine planeM_eq (8 * n) (8 * m) (by omega) _ l hlen ?_
  intro y x hy hx
  rw [join_cut l n m hlen y x hy hx]
  simp
theorem pad_back (l : List Int) (w h nw nh : Int) (hg : isGr l w h nw nh = true) : impl_Crop.f (planeM nw.toNat nh.toNat (padG l w h)) nw nh w h = some l ∧ 0 < (planeM nw.toNat nh.toNat (padG l w h)).length ∧ (planeM nw.toNat nh.toNat (padG l w h)).length ≤ 10000000 := by
  obtain ⟨hpl, q1, q2, q3⟩ := isGr_of hg
  obtain ⟨p1, p2, p3⟩ := plane_of hpl
  obtain ⟨s1, s2, s3, s4, s5⟩ := sides_of p1
  obtain ⟨t1, t2, t3, t4, t5⟩ := sides_of q1
  obtain ⟨W, hW⟩ := Int.eq_ofNat_of_zero_le (show 0 ≤ nw by omega)
  obtain ⟨H, hH⟩ := Int.eq_ofNat_of_zero_le (show 0 ≤ nh by omega)
  obtain ⟨a, ha⟩ := Int.eq_ofNat_of_zero_le (show 0 ≤ w by omega)
  obtain ⟨b, hb⟩ := Int.eq_ofNat_of_zero_le (show 0 ≤ h by omega)
  rw [show nw.toNat = W by omega, show nh.toNat = H by omega]
  have hWH : H * W ≤ 1024 * 1024 := Nat.mul_le_mul (by omega) (by omega)
  have h1 : 1 * 1 ≤ H * W := Nat.mul_le_mul (by omega) (by omega)
  refine ⟨?_, by rw [planeM_len]; omega, by rw [planeM_len]; omega⟩
  have hlen : l.length = b * a := by
    have : (l.length : Int) = ((b * a : Nat) : Int) := by rw [p2, ha, hb, Int.mul_comm]; simp
    omega
  have hc : cropOk (planeM W H (padG l w h)) nw nh w h = true := by
    unfold cropOk planeOk
    have e : ((planeM W H (padG l w h)).length : Int) = nw * nh := by rw [planeM_len, hW, hH, Int.mul_comm]; simp
    rw [q1, p1, decide_eq_true e, allW_plane W H (padG l w h) (fun y x _ _ => rd_4095 l p3 _), decide_eq_true q2, decide_eq_true q3]
    rfl
  unfold impl_Crop.f
  rw [if_pos (by rw [planeM_len]; omega), if_pos hc]
  congr 1
  rw [show w.toNat = a by omega, show h.toNat = b by omega]
  refine planeM_eq a b (by omega) _ l hlen ?_
  intro y x hy hx
  unfold cropG
  rw [hW, planeM_rd W H (padG l w h) y x (by omega) (by omega)]
  unfold padG
  rw [Int.min_eq_left (by omega), Int.min_eq_left (by omega), ha]
theorem blocks_j1 (c : List Int) (hc : ∀ x ∈ c, 0 ≤ x ∧ x ≤ 255) (hl : c.length ≤ 1048576) : Ev (fun k => laws_FnBlocksBack.j1 k c false) true := by
  obtain ⟨⟨p, x, y, nx, ny⟩, hd, hlen⟩ := spec_DrawPad.ev c hc hl
  simp only at hlen
  have hpad : impl_Pad.f p x y nx ny = some (if isGr p x y nx ny then planeM nx.toNat ny.toNat (padG p x y) else []) := if_pos (by omega)
  refine Ev.step (fun _ => by rw [laws_FnBlocksBack.j1]) (Ev.ng (by simp) (Ev.bind hd (Ev.bind (Ev.c hpad) (Ev.bind (spec_Pad.ev p x y nx ny) ?_))))
  by_cases hg : isGr p x y nx ny = true
  · obtain ⟨b1, b2, b3⟩ := pad_back p x y nx ny hg
    rw [if_pos hg]
    refine Ev.bind (laws_sameInts.same _ (by omega)) (Ev.ip rfl (Ev.ng (by omega) (Ev.bind (Ev.c b1) ?_)))
    exact Ev.bind (laws_sameInts.same p (by omega)) (Ev.now _)
  · rw [if_neg hg]
    exact Ev.bind (laws_sameInts.same [] (by simp)) (Ev.ip rfl (Ev.ip rfl (Ev.now _)))
theorem blocks_j0 (c d : List Int) (hc : ∀ x ∈ c, 0 ≤ x ∧ x ≤ 255) (hl : c.length ≤ 1048576) (hd : ∀ x ∈ d, 0 ≤ x ∧ x ≤ 255) (hl2 : d.length ≤ 1048576) : Ev (fun k => laws_FnBlocksBack.j0 k c d false) true := by
  obtain ⟨⟨l, w, h⟩, hdr, hlen⟩ := spec_DrawCutBlocks.ev c hc hl
  simp only at hlen
  have hj1 := blocks_j1 d hd hl2
  refine Ev.step (fun _ => by rw [laws_FnBlocksBack.j0]) (Ev.ng (by simp) (Ev.bind hdr (Ev.bind (impl_CutBlocks.ev l w h) (Ev.bind (spec_CutBlocks.ev l w h) ?_))))
  by_cases hok : cutOk l w h = true
  · have hjb := join_back l w h hok
    rw [if_pos hok]
    have hrows : ∀ b ∈ cutM l w (w / 8).toNat (h / 8).toNat, b.length ≤ 281474976710656 := by
      intro b hb
      unfold cutM cutRow at hb
      rw [List.mem_flatMap] at hb
      obtain ⟨y, hy, hb⟩ := hb
      rw [List.mem_map] at hb
      obtain ⟨x, hx, rfl⟩ := hb
      rw [planeM_len]; omega
    have hcl : (cutM l w (w / 8).toNat (h / 8).toNat).length ≤ 281474976710656 := by
      have : impl_JoinBlocks.f (cutM l w (w / 8).toNat (h / 8).toNat) w h ≠ none := by rw [hjb]; simp
      unfold impl_JoinBlocks.f at this
      split at this
      · omega
      · exact absurd rfl this
    refine Ev.bind (laws_sameLists.same _ hcl hrows) (Ev.ip rfl ?_)
    by_cases hz : ((cutM l w (w / 8).toNat (h / 8).toNat).length : Int) > 0
    · refine Ev.ip hz (Ev.bind (Ev.c hjb) (Ev.bind (laws_sameInts.same l (by omega)) ?_))
      exact hj1
    · exact Ev.ng hz hj1
  · rw [if_neg hok]
    refine Ev.bind (laws_sameLists.same [] (by simp) (by simp)) (Ev.ip rfl ?_)
    exact Ev.ng (by simp) hj1
theorem pure_FnBlocksBack : ∀ (l0 : List Int) (l1 : List Int), (l0.length ≤ 9223372036854775807 ∧ ∀ x0_ ∈ l0, (Lit.int .u8 x0_).wf = true) → (l1.length ≤ 9223372036854775807 ∧ ∀ x0_ ∈ l1, (Lit.int .u8 x0_).wf = true) → ∃ k, laws_FnBlocksBack.f k l0 l1 = some true := by
  intro l0 l1 h0 h1
  have hb0 : ∀ x ∈ l0, 0 ≤ x ∧ x ≤ 255 := fun x hx => wf_u8 (h0.2 x hx)
  have hb1 : ∀ x ∈ l1, 0 ≤ x ∧ x ≤ 255 := fun x hx => wf_u8 (h1.2 x hx)
  have out : Ev (fun k => laws_FnBlocksBack.j0 k l0 l1 true) true := Ev.step (fun _ => by rw [laws_FnBlocksBack.j0]) (Ev.ip rfl (Ev.now _))
  have hbig : ∀ l : List Int, laws_big.f l = some (decide ((l.length : Int) > 1048576)) := fun l => rfl
  have : Ev (fun k => laws_FnBlocksBack.f k l0 l1) true := by
    refine Ev.bind (Ev.c (hbig l0)) ?_
    by_cases b0 : (l0.length : Int) > 1048576
    · exact Ev.ip (decide_eq_true b0) out
    · refine Ev.ng (by simp; omega) (Ev.bind (Ev.c (hbig l1)) ?_)
      by_cases b1 : (l1.length : Int) > 1048576
      · rw [decide_eq_true b1]; exact out
      · rw [decide_eq_false b1]
        exact blocks_j0 l0 l1 hb0 (by omega) hb1 (by omega)
  exact this.rounds

theorem PureFnBlocksBack : ∀ (l0 : List Int) (l1 : List Int), (l0.length ≤ 9223372036854775807 ∧ ∀ x0_ ∈ l0, (Lit.int .u8 x0_).wf = true) → (l1.length ≤ 9223372036854775807 ∧ ∀ x0_ ∈ l1, (Lit.int .u8 x0_).wf = true) → ∃ k, laws_FnBlocksBack.f k l0 l1 = some true :=
  pure_FnBlocksBack
end Go.Proofs.Ytcjjmfpkhhdmlaa.G
