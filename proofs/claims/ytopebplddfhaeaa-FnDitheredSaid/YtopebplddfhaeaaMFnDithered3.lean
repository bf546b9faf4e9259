/- FnDithered (P21): what is dithered tells a colour for each pixel, and pixels that are all colours are told as they are, for the draws of any bytes. -/
import Derived.BigRegion
import Derived.Deep.CutRange
import Derived.Deep.LoopGhost
import Derived.Deep.RegionHeld3
import Derived.Deep.Slices
import Derived.ChangeArms
import Derived.Test.YtopebplddfhaeaaRows
import Derived.WalkKit
import Derived.ProofKit
import Derived.OpenShut
import Derived.ShutString
import Derived.ChangeOld
import Derived.Below
import Derived.SizedLaws
import Derived.Test.YtopebplddfhaeaaMFnDithered2
set_option linter.unusedVariables false
set_option linter.unusedSimpArgs false
namespace Go.Proofs.Ytopebplddfhaeaa.G
open Go.RowKit Go.Proofs.YtopebplddfhaeaaW.PrintWords Go.Proofs.YtopebplddfhaeaaW.PrintLast Go.Proofs.YtopebplddfhaeaaW.PrintMore
attribute [local go_sem] max2_int min2_int max_two min_two max_three min_three max_four min_four   -- for this text's walks alone
/-! ### spec_Dither: function 14 -/
--import Derived.BigRegion
--import Derived.Deep.CutRange
--import Derived.Deep.LoopGhost
--import Derived.Deep.RegionHeld3
def spec_Dither.f (l0 : List (List Int)) (a1 : Int) (l1 : List (List Int)) : Option (List Int) := if l0.length ≤ 9223372036854775807 then some (ditM l0 a1 l1) else none
theorem ditM_not {l0 l1 : List (List Int)} {a1 : Int} (h : ditOk l0 a1 l1 = false) : ditM l0 a1 l1 = [] := by simp [ditM, h]
/-- the rows of numbers that are handed on -/
def rowsOf (H : Nat → Int) (n : Nat) : List (List Int) := (List.range n).map fun p => [H (3 * p), H (3 * p + 1), H (3 * p + 2)]
theorem rowsOf_len (H : Nat → Int) (n : Nat) : (rowsOf H n).length = n := by simp [rowsOf]
theorem rowsOf_get (H : Nat → Int) (n t : Nat) (ht : t < n) : (rowsOf H n).getD t [] = [H (3 * t), H (3 * t + 1), H (3 * t + 2)] := by simp [rowsOf, ht]
theorem rowsOf_zero (n : Nat) : rowsOf (fun _ => 0) n = List.replicate n [0, 0, 0] := by
  apply List.ext_getElem (by simp [rowsOf])
  intro i h1 h2
  simp [rowsOf]
theorem rowsOf_set (H : Nat → Int) (n t j : Nat) (u : Int) (ht : t < n) (hj : j < 3) : (rowsOf H n).set t (((rowsOf H n).getD t []).set j (H (3 * t + j) + u)) = rowsOf (addAt H (3 * t + j) u) n := by
  rw [rowsOf_get _ _ _ ht]
  apply List.ext_getElem (by simp [rowsOf])
  intro i h1 h2
  rw [List.getElem_set]
  have hj3 : j = 0 ∨ j = 1 ∨ j = 2 := by omega
  by_cases hi : t = i
  · subst hi
    rw [if_pos rfl]
    rcases hj3 with h | h | h <;> subst h <;> simp [rowsOf, addAt]
  · rw [if_neg hi]
    simp only [rowsOf, List.getElem_map, List.getElem_range, addAt]
    rw [if_neg (by omega), if_neg (by omega), if_neg (by omega)]
theorem floor32 (x : Int) (h0 : -1099511627776 ≤ x) (h1 : x ≤ 1099511627776) : spec_l05Floor.f x 32 = some (x / 32) := by
  unfold spec_l05Floor.f
  by_cases hx : x ≥ 0
  · rw [if_pos hx, if_neg (by omega)]
    rw [Int.tdiv_eq_ediv_of_nonneg (by omega), wrap_in (x / 32) (by omega) (by omega)]
  · rw [if_neg hx, if_neg (by omega)]
    rw [wrap_in (-x) (by omega) (by omega), wrap_in (-x + 32) (by omega) (by omega), wrap_in (-x + 32 - 1) (by omega) (by omega)]
    have e : Int.tdiv (-x + 32 - 1) 32 = (-x + 31) / 32 := by rw [Int.tdiv_eq_ediv_of_nonneg (by omega)]; congr 1; omega
    rw [e, wrap_in ((-x + 31) / 32) (by omega) (by omega), wrap_in (-((-x + 31) / 32)) (by omega) (by omega)]
    congr 1
    omega
theorem round16 (x : Int) (h0 : -99511627776 ≤ x) (h1 : x ≤ 99511627776) : spec_l05Round.f x 16 = some (rnd16 x) := by
  unfold spec_l05Round.f rnd16
  rw [wrap_in (2 * x) (by omega) (by omega), wrap_in (2 * x + 16) (by omega) (by omega), wrap_in (2 * 16) (by omega) (by omega)]
  rw [show (2 : Int) * 16 = 32 from rfl, floor32 _ (by omega) (by omega)]
  rfl
theorem clip255 (x : Int) : spec_l05Clip.f x 0 255 = some (clip8 x) := by
  unfold spec_l05Clip.f clip8
  by_cases h : x < 0
  · rw [if_pos h, if_pos h]
  · rw [if_neg h, if_neg h]
    by_cases h2 : x > 255
    · rw [if_pos h2, if_pos h2]
    · rw [if_neg h2, if_neg h2]
def OnS (W : World) (N0 N1 : Nat) (v8 : Value) (H : Nat → Int) (n : Nat) : Prop := Kd.S (Kd.slice 3 (Kd.int .i64)) 25 W N0 (fun k => N0 ≤ k ∧ k < N1) v8 (rowsOf H n)
theorem OnS.put {W : World} {N0 N1 g cap n m : Nat} {H : Nat → Int} (h : OnS W N0 N1 (.slice (some ⟨g, 0, none⟩) m cap) H n) (hm : m = n) (t j : Nat) (ht : t < n) (hj : j < 3) :
    ∃ b cp, W.cell? ⟨g, t, none⟩ = some (.slice (some ⟨b, 0, none⟩) 3 cp) ∧ W.cell? ⟨b, j, none⟩ = some (.int .i64 (H (3 * t + j))) ∧ W.frozen? ⟨b, j, none⟩ = false ∧ N0 ≤ b ∧ b < N1 ∧
      ∀ u v : Int, v = H (3 * t + j) + u → OnS (W.setCell ⟨b, j, none⟩ (.int .i64 v)) N0 N1 (.slice (some ⟨g, 0, none⟩) m cap) (addAt H (3 * t + j) u) n := by
  subst hm
  have hl : ((rowsOf H m).getD t []).length = 3 := by rw [rowsOf_get _ _ _ ht]; rfl
  obtain ⟨b, cp, h1, h2, h3, h4, h5, h6, h7⟩ := S_rowput h t j ht (by rw [hl]; exact hj)
  rw [hl] at h1
  refine ⟨b, cp, h1, ?_, h3, h4, h5.2, fun u v hv => ?_⟩
  · rw [h2, rowsOf_get _ _ _ ht]
    have hj3 : j = 0 ∨ j = 1 ∨ j = 2 := by omega
    rcases hj3 with h | h | h <;> subst h <;> rfl
  · subst hv
    have := (h7 (H (3 * t + j) + u)).1
    rw [rowsOf_set H m t j u ht hj] at this
    exact this
theorem now_next (px : List Int) (H : Nat → Int) (p i : Nat) (hi : i < 3) : (nowAt px H p).take i ++ [clip8 (rd px i + rnd16 (H (p * 3 + i)))] = (nowAt px H p).take (i + 1) := by
  have : i = 0 ∨ i = 1 ∨ i = 2 := by omega
  rcases this with h | h | h <;> subst h <;> simp [nowAt, Nat.mul_comm]
/-- the first j numbers of a pixel have handed on -/
def stepUp (H : Nat → Int) (p w n : Nat) (d : Nat → Int) : Nat → Nat → Int
  | 0 => H
  | j + 1 => stepJ (stepUp H p w n d j) p w n j (d j)
theorem stepUp_three (H : Nat → Int) (p w n : Nat) (d : Nat → Int) (hw : 0 < w) (hn : n % w = 0) (hp : p < n) : stepUp H p w n d 3 = stepH H p w n d := step_same H p w n d hw hn hp
theorem stepJ_bnd {H : Nat → Int} {b d : Int} (h : Bnd H b) (p w n j : Nat) (h1 : -255 ≤ d) (h2 : d ≤ 255) : Bnd (stepJ H p w n j d) (b + 4080) := by
  unfold stepJ
  have k1 : Bnd _ (b + 1785) := Bnd.if (P := p % w + 1 < w) h (Bnd.add h (3 * (p + 1) + j) (v := 7 * d) (c := 1785) (by omega) (by omega) (by omega)) (by omega)
  have k2 : Bnd _ (b + 1785 + 765) := Bnd.if (P := 0 < p % w) k1 (Bnd.add k1 (3 * (p + w - 1) + j) (v := 3 * d) (c := 765) (by omega) (by omega) (by omega)) (by omega)
  have k3 : Bnd _ (b + 1785 + 765 + 1275) := Bnd.add k2 (3 * (p + w) + j) (v := 5 * d) (c := 1275) (by omega) (by omega) (by omega)
  have k4 : Bnd _ (b + 1785 + 765 + 1275 + 255) := Bnd.if (P := p % w + 1 < w) k3 (Bnd.add k3 (3 * (p + w + 1) + j) (v := d) (c := 255) (by omega) (by omega) (by omega)) (by omega)
  exact Bnd.if (P := n ≤ p + w) (k4.more (c := b + 4080) (by omega)) (k1.more (c := b + 4080) (by omega)) (Int.le_refl _)
theorem stepUp_bnd {H : Nat → Int} {b : Int} {d : Nat → Int} (h : Bnd H b) (p w n : Nat) (hd : ∀ j, -255 ≤ d j ∧ d j ≤ 255) : ∀ j : Nat, Bnd (stepUp H p w n d j) (b + 4080 * j)
  | 0 => h.more (by omega)
  | j + 1 => (stepJ_bnd (stepUp_bnd h p w n hd j) p w n j (hd j).1 (hd j).2).more (by omega)
/-- what lies still while numbers are handed on -/
def HandR (w wo W : World) (N0 N1 : Nat) (vg : Value) (H : Nat → Int) (n : Nat) (An : Option Addr) (cn : Nat) (now : List Int) (vo : Value) (out : List Int) : Prop :=
  OnS W N0 N1 vg H n ∧ Kd.R (Kd.int .i64) 3 W wo.heap.size (fun k => wo.heap.size ≤ k) (.slice An 3 cn) now ∧ Kd.R (Kd.int .i64) 3 W w.heap.size (fun k => k < N0 ∨ N1 ≤ k) vo out ∧ Below w.heap.size w W ∧ N1 ≤ W.heap.size
theorem HandR.put {w wo W : World} {N0 N1 g cap n : Nat} {H : Nat → Int} {An : Option Addr} {cn : Nat} {now : List Int} {vo : Value} {out : List Int} (h : HandR w wo W N0 N1 (.slice (some ⟨g, 0, none⟩) n cap) H n An cn now vo out) (hN : N1 ≤ wo.heap.size) (h0 : w.heap.size ≤ N0) (t j : Nat) (ht : t < n) (hj : j < 3) :
    ∃ b cp, W.cell? ⟨g, t, none⟩ = some (.slice (some ⟨b, 0, none⟩) 3 cp) ∧ W.cell? ⟨b, j, none⟩ = some (.int .i64 (H (3 * t + j))) ∧ W.frozen? ⟨b, j, none⟩ = false ∧
      ∀ u v : Int, v = H (3 * t + j) + u → HandR w wo (W.setCell ⟨b, j, none⟩ (.int .i64 v)).drew N0 N1 (.slice (some ⟨g, 0, none⟩) n cap) (addAt H (3 * t + j) u) n An cn now vo out := by
  obtain ⟨h1, h2, h3, h4, h5⟩ := h
  obtain ⟨b, cp, q1, q2, q3, q4, q5, q6⟩ := h1.put rfl t j ht hj
  refine ⟨b, cp, q1, q2, q3, fun u v hv => ⟨Kd.S_drew (q6 u v hv), Kd.R_drew (Kd.R_far (p := ⟨b, j, none⟩) h2 (fun k hk => by show k ≠ b; omega) _), Kd.R_drew (Kd.R_far (p := ⟨b, j, none⟩) h3 (fun k hk => by show k ≠ b; omega) _), below_drew (below_set h4 (by show w.heap.size ≤ b; omega)), ?_⟩⟩
  show N1 ≤ (W.setCell ⟨b, j, none⟩ (.int .i64 v)).heap.size
  rw [World.size_setCell]
  exact h5
def DsRel (w : World) (N0 N1 : Nat) (v8 : Value) (l0 l1 : List (List Int)) (wd : Nat) (r : List Int) (kq : Nat) (v7 v10 : Value) (w' : World) : Prop :=
  ∃ (p : Nat) (H : Nat → Int) (out : List Int), v10 = .int .i64 p ∧ p ≤ l0.length ∧ kq = l0.length - p + 1 ∧ Aside0 (OnS w' N0 N1 v8 H l0.length) ∧ Aside0 (Bnd H (12240 * p)) ∧
    Aside0 (Kd.R (Kd.int .i64) 3 w' w.heap.size (fun k => k < N0 ∨ N1 ≤ k) v7 out) ∧ Aside0 (out ++ ditGo l1 wd l0.length (l0.drop p) p H = r) ∧ Aside0 (out.length = p) ∧ Aside0 (Below w.heap.size w w') ∧ Aside0 (N1 ≤ w'.heap.size)
set_option maxRecDepth 100000 in
set_option maxHeartbeats 4000000 in
theorem spec_Dither.calls (A0 : Option Addr) (c0 : Nat) (l0 : List (List Int)) (a1 : Int) (A1 : Option Addr) (c1 : Nat) (l1 : List (List Int)) (r : List Int) (w : World) (hr0 : Kd.C (Kd.slice 3 (Kd.int .i64)) w A0 l0.length l0) (hc0 : l0.length ≤ c0) (hr1 : Kd.C (Kd.slice 3 (Kd.int .i64)) w A1 l1.length l1) (hc1 : l1.length ≤ c1) (h : spec_Dither.f l0 a1 l1 = some r) :
    Calls Try.prog 14 #[.slice A0 l0.length c0, .int .i64 a1, .slice A1 l1.length c1] w fun e w' => ∃ v0_ : Value, e = .returned (v0_) ∧ Kd.R (Kd.int .i64) 3 w' w.heap.size (fun _ => True) v0_ r ∧ Below w.heap.size w w' := by
  unfold spec_Dither.f at h
  split at h
  · rename_i hlen
    have HH := Aside0.mk (Option.some.inj h)
    have HR0 := Aside0.mk hr0
    have HC0 := Aside0.mk hc0
    have HR1 := Aside0.mk hr1
    have HC1 := Aside0.mk hc1
    clear h hr0 hc0 hr1 hc1
    obtain ⟨p, hp⟩ : ∃ p : Bool, p = (decide (l0.length ≤ 4096) && l0.all isPx) := ⟨_, rfl⟩
    obtain ⟨q, hq⟩ : ∃ q : Bool, q = isCols l1 := ⟨_, rfl⟩
    obtain ⟨u, hu⟩ : ∃ u : Bool, u = (decide (1 ≤ a1) && decide (a1 ≤ 4096)) := ⟨_, rfl⟩
    have hok : ditOk l0 a1 l1 = (p && q && u && decide (l0.length % a1.toNat = 0)) := by rw [ditOk, hp, hq, hu]
    obtain ⟨kp, hpv⟩ := (spec_PixelsOk.ev l0).rounds
    obtain ⟨kq, hqv⟩ := (spec_l21Colours.ev l1).rounds
    have huv := spec_l01Between.val a1 1 4096
    rw [← hp] at hpv
    rw [← hq] at hqv
    rw [← hu] at huv
    have HP := Aside0.mk hp
    have HQ := Aside0.mk hq
    have HU := Aside0.mk hu
    have HOK := Aside0.mk hok
    have HPV := Aside0.mk hpv
    have HQV := Aside0.mk hqv
    have HUV := Aside0.mk huv
    clear hp hq hu hok hpv hqv huv
    go_enter Try.func14, Try.ntmps14
    go_upto_region 2 with (first | ((with_reducible refine gate_dst (N := 17) rfl ?_); refine Kd.R_lit (w0 := w) (Kd.int .i64) w.heap.size 3 ?hg (N := 17) ?hd (xs := ([] : List Int)) (inner := []) (ok := fun _ => True) (okp := fun _ => True) ?hr ?hp (fun _ hk => hk) trivial (Below.refl _ _) (Nat.le_refl _) (by simp) ?_; (case hd => rfl); (case hg => rfl); (case hr => first | (go_simp; done) | (go_simp; rfl)); (case hp => exact (Reps.none _ _)); intro v7 W1 ho hb hg_ hnew_; have HO := Aside0.mk ho; have HB1 := Aside0.mk hb; clear ho hb hg_ hnew_))
    go_wp2_with fail
    refine (spec_PixelsOk.calls kp A0 c0 l0 p _ (Kd.C_below HR0.out HB1.out) HC0.out HPV.out).mono ?_
    rintro e_ w_ ⟨rfl, ⟨n1, rfl⟩⟩
    have HB2 := Aside0.mk (pw_below_drewN HB1.out n1)
    cases p with
    | false =>
      go_wp2
      have := HH.out
      rw [ditM_not (by rw [HOK.out]; rfl)] at this
      subst this
      go_ret
      exact ⟨_, rfl, Kd.R_drewN HO.out _, HB2.out⟩
    | true =>
      go_wp2_with fail
      refine (spec_l21Colours.calls kq A1 c1 l1 q _ (Kd.C_below HR1.out HB2.out) HC1.out HQV.out).mono ?_
      rintro e_ w_ ⟨rfl, ⟨n2, rfl⟩⟩
      have HB3 := Aside0.mk (pw_below_drewN HB1.out (n1 + n2))
      cases q with
      | false =>
        go_wp2
        have := HH.out
        rw [ditM_not (by rw [HOK.out]; rfl)] at this
        subst this
        go_ret
        exact ⟨_, rfl, Kd.R_drewN HO.out _, HB3.out⟩
      | true =>
        go_wp2_with fail
        refine (spec_l01Between.calls a1 1 4096 u _ HUV.out).mono ?_
        rintro e_ w_ ⟨rfl, ⟨n3, rfl⟩⟩
        have HB4 := Aside0.mk (pw_below_drewN HB1.out (n1 + n2 + n3))
        cases u with
        | false =>
          go_wp2
          have := HH.out
          rw [ditM_not (by rw [HOK.out]; rfl)] at this
          subst this
          go_ret
          exact ⟨_, rfl, Kd.R_drewN HO.out _, HB4.out⟩
        | true =>
          obtain ⟨u1, u2⟩ : 1 ≤ a1 ∧ a1 ≤ 4096 := by have := HU.out; simpa using this.symm
          obtain ⟨wd, rfl⟩ : ∃ wd : Nat, a1 = (wd : Int) := ⟨a1.toNat, by omega⟩
          have hl4 : l0.length ≤ 4096 ∧ l0.all isPx = true := by have := HP.out; simpa using this.symm
          obtain ⟨hl5, hpx⟩ := hl4
          have HPX := Aside0.mk hpx
          clear hpx
          by_cases hmod : l0.length % wd = 0
          · have hmb : ((l0.length : Int) % (wd : Int) != 0) = false := by
              have : (l0.length : Int) % (wd : Int) = ((l0.length % wd : Nat) : Int) := by simp
              rw [this, hmod]; rfl
            have HIS := Aside0.mk (show ditGo l1 wd l0.length l0 0 (fun _ => 0) = r by
              have := HH.out
              rwa [ditM, if_pos (by rw [HOK.out]; simp [hmod]), Int.toNat_natCast] at this)
            have HMOD := Aside0.mk hmod
            clear HH hmod
            go_upto_region 4 with (fail)
            generalize hW2 : W1.drewN (n1 + n2 + n3) = W2
            have HB : Aside0 (Below w.heap.size w W2) := by rw [← hW2]; exact HB4
            have HO2 : Aside0 (Kd.R (Kd.int .i64) 3 W2 w.heap.size (fun _ => True) v7 []) := by rw [← hW2]; exact ⟨Kd.R_drewN HO.out _⟩
            clear hW2 HB1 HB2 HB3 HB4 hmb HO
            go_upto_region 6 with (first | ((with_reducible refine gate_dst (N := 39) rfl ?_); refine Kd.S_lit (w0 := W2) (Kd.slice 3 (Kd.int .i64)) W2.heap.size 25 ?hg (N := 39) ?hd (xs := ([] : List (List Int))) (inner := []) (ok := fun k => W2.heap.size ≤ k) (okp := fun _ => False) ?hr ?hp (fun _ hk => hk.elim) (Nat.le_refl _) (Below.refl _ _) (Nat.le_refl _) (by simp) ?_; (case hd => rfl); (case hg => rfl); (case hr => first | (go_simp; done) | (go_simp; rfl)); (case hp => exact (Reps.none _ _)); intro v8 W3 ho hb hg_ hnew_; have HON := Aside0.mk ho; have HB5 := Aside0.mk hb; clear ho hb hg_ hnew_))
            go_loopg [8, 9] (l0.length + 1) (fun kq v8 v9 w' => ∃ i : Nat, v9 = .int .i64 i ∧ i ≤ l0.length ∧ kq = l0.length - i + 1 ∧ Aside0 (Kd.S (Kd.slice 3 (Kd.int .i64)) 25 w' W2.heap.size (fun k => W2.heap.size ≤ k) v8 (List.replicate i [0, 0, 0])) ∧ Aside0 (Below W2.heap.size W2 w'))
            case atStart => exact ⟨0, rfl, by omega, by omega, HON, HB5⟩
            case round =>
              clear HON HB5
              obtain ⟨i, rfl, hi, rfl, HON, HBL⟩ := hrel
              by_cases hlt : i < l0.length
              · obtain ⟨A8, c8, e8⟩ := Kd.S_slice HON.out
                rw [List.length_replicate] at e8
                subst e8
                have hs8 : ∀ k, (Value.slice A8 i c8).ownBlock = some k → k < wr.heap.size := fun k hk => Kd.S_lt HON.out k hk
                have HS8 := Aside0.mk hs8
                have hsz := HBL.out.size
                clear hs8
                go_wp2_with (first | ((with_reducible refine gate_dst (N := 47) rfl ?_); refine Kd.R_lit (w0 := wr) (Kd.int .i64) wr.heap.size 3 ?hg (N := 47) ?hd (xs := [0, 0, 0]) (inner := [.int .i64 0, .int .i64 0, .int .i64 0]) (ok := fun k => wr.heap.size ≤ k) (okp := fun _ => False) ?hr ?hp (fun _ hk => hk.elim) (Nat.le_refl _) (Below.refl _ _) (Nat.le_refl _) (by simp) ?_; (case hd => rfl); (case hg => rfl); (case hr => first | (go_simp; done) | (go_simp; rfl)); (case hp => exact ((((Reps.none _ _).snoc (p := (0 : Int)) (c := [.int .i64 0]) rfl rfl).snoc (p := (0 : Int)) (c := [.int .i64 0]) rfl rfl).snoc (p := (0 : Int)) (c := [.int .i64 0]) rfl rfl)); intro v47 wl ho hb hg_ hnew_; (obtain ⟨A47, c47, e47⟩ := Kd.R_slice ho); (have e47b : v47 = .slice A47 3 c47 := e47); subst e47b; clear e47; have HROW := Aside0.mk (Kd.R_lower ho hsz); have HBR := Aside0.mk hb; have HBW := Aside0.mk (Below.trans HBL.out (hb.mono hsz)); have HOLD := Aside0.mk (Kd.S_mono (ok' := fun k => W2.heap.size ≤ k ∧ ¬ wr.heap.size ≤ k) (Kd.S_old HON.out hb) (fun k hk => ⟨hk.1, Nat.not_le.2 hk.2⟩)); clear ho hb hg_ hnew_) | ((with_reducible refine gate_builtin (b := .append) (xs := #[.tmp 46, .tmp 48]) rfl ?_); at_builtin; refine Kd.S_append (Kd.slice 3 (Kd.int .i64)) (w0 := W2) W2.heap.size rfl (.tmp 46) (.tmp 48) 24 25 (.slice none 0 0) 24 rfl Try.underlying24 info25 rfl (by decide) (by omega) _ (List.replicate i [0, 0, 0]) [0, 0, 0] [.slice A47 3 c47] (fun k => W2.heap.size ≤ k) (fun k => wr.heap.size ≤ k) rfl rfl ⟨_, rfl, HROW.out⟩ (fun k hk => ⟨by omega, fun e => absurd (HS8.out k e.symm) (by omega)⟩) (fun k hk => by have e1 := HBW.out.size; omega) HOLD.out HBW.out HBW.out.size (by rw [List.length_replicate]; omega) ?_; intro v49 w3 ho hb hg hat; have HO3 := Aside0.mk ho; have HB3 := Aside0.mk hb; clear ho hb hg hat))
                go_roundg (l0.length - (i + 1) + 1)
                case rel => exact ⟨i + 1, by go_num, by omega, by omega, ⟨by rw [List.replicate_succ']; exact HO3.out⟩, HB3⟩
                case measure => omega
              · obtain rfl : i = l0.length := by omega
                obtain ⟨W4, hw4⟩ : ∃ W4, W4 = wr := ⟨_, rfl⟩
                subst hw4
                obtain ⟨A8, c8, e8⟩ := Kd.S_slice HON.out
                rw [List.length_replicate] at e8
                subst e8
                have hN01 := HBL.out.size
                have hN0 := HB.out.size
                have HOS := Aside0.mk (show OnS W4 W2.heap.size W4.heap.size (.slice A8 l0.length c8) (fun _ => 0) l0.length by
                  unfold OnS
                  rw [rowsOf_zero]
                  exact Kd.S_mono (Kd.S_bound HON.out) (fun k hk => ⟨hk.1, hk.2.2.1⟩))
                have HO4 := Aside0.mk (show Kd.R (Kd.int .i64) 3 W4 w.heap.size (fun k => k < W2.heap.size ∨ W4.heap.size ≤ k) v7 [] from Kd.R_below (Kd.R_mono (Kd.R_bound HO2.out) (fun k hk => .inl hk.2.2.1)) HBL.out)
                have HBw4 := Aside0.mk (Below.trans HB.out (HBL.out.mono hN0))
                clear HON HBL HO2 HB
                generalize W2.heap.size = N0 at HOS HO4 hN01 hN0
                generalize hN1 : W4.heap.size = N1 at HOS HO4 hN01
                have HN1 := Aside0.mk (Nat.le_of_eq hN1.symm)
                clear hN1
                go_wp2
                go_loopg [7, 10] (l0.length + 1) (fun kq v7 v10 w' => DsRel w N0 N1 (.slice A8 l0.length c8) l0 l1 wd r kq v7 v10 w')
                case atStart => exact ⟨0, fun _ => 0, [], rfl, by omega, by omega, HOS, ⟨fun q => by show -(12240 * ((0 : Nat) : Int)) ≤ 0 ∧ (0 : Int) ≤ 12240 * ((0 : Nat) : Int); omega⟩, HO4, ⟨by simpa using HIS.out⟩, ⟨rfl⟩, HBw4, HN1⟩
                case round =>
                  clear HOS HO4 HIS HBw4 HN1
                  obtain ⟨p, H, out, rfl, hp, rfl, HOS, HBN, HO, HR, HL, HBw, HN1⟩ := hrel
                  obtain ⟨wo, hwo⟩ : ∃ wo, wo = wr := ⟨_, rfl⟩
                  subst hwo
                  obtain ⟨A7, c7, e7⟩ := Kd.R_slice HO.out
                  subst e7
                  by_cases hlt : p < l0.length
                  · obtain ⟨ad, Ap, cp, q1, hx, hl, hi1⟩ := at_L2 HR0.out (p : Int) (by omega) (by omega)
                    cases q1
                    rw [Int.toNat_natCast] at hx
                    have hrl : rd_L2 l0 p = l0[p] := by simp [rd_L2, hlt]
                    rw [hrl] at hx hl hi1
                    obtain ⟨px, hpxe⟩ : ∃ px, px = l0[p] := ⟨_, rfl⟩
                    rw [← hpxe] at hx hl hi1
                    have hpx3 : isPx px = true := by rw [hpxe]; exact List.all_eq_true.1 HPX.out _ (List.getElem_mem hlt)
                    have HPX3 := Aside0.mk hpx3
                    have HPXE := Aside0.mk hpxe
                    have hlen3 : px.length = 3 := by
                      obtain ⟨_, _, _, h3, _⟩ := isPx_three hpx3
                      rw [h3]; rfl
                    have HL3 := Aside0.mk hlen3
                    replace hx := (HBw.out.cell (World.block_lt_of_cell? w _ hx)).trans hx
                    have HX := Aside0.mk hx
                    have HI1 := Aside0.mk hi1
                    have HL1 := Aside0.mk hl
                    obtain ⟨g, cap, e2, hgb, hgl, _⟩ := Kd.S_form HOS.out (by rw [rowsOf_len]; omega)
                    injection e2 with e2 e4 e3
                    subst e2; subst e3
                    clear e4 hx hi1 hl hlen3 hpx3 hpxe hrl hgb hgl
                    go_upto_region 13 with (first | ((with_reducible refine gate_dst (N := 56) rfl ?_); refine Kd.R_lit (w0 := wo) (Kd.int .i64) wo.heap.size 3 ?hg (N := 56) ?hd (xs := ([] : List Int)) (inner := []) (ok := fun k => wo.heap.size ≤ k) (okp := fun _ => False) ?hr ?hp (fun _ hk => hk.elim) (Nat.le_refl _) (Below.refl _ _) (Nat.le_refl _) (by simp) ?_; (case hd => rfl); (case hg => rfl); (case hr => first | (go_simp; done) | (go_simp; rfl)); (case hp => exact (Reps.none _ _)); intro v56 W5 ho hb hg_ hnew_; have HNL := Aside0.mk ho; have HBW := Aside0.mk hb; clear ho hb hg_ hnew_))
                    go_wp2
                    go_loopg [11, 12] 4 (fun kq v11 v12 w' => ∃ j : Nat, v12 = .int .i64 j ∧ j ≤ 3 ∧ kq = 3 - j + 1 ∧ Aside0 (Kd.R (Kd.int .i64) 3 w' wo.heap.size (fun k => wo.heap.size ≤ k) v11 ((nowAt px H p).take j)) ∧ Aside0 (Below wo.heap.size wo w'))
                    case atStart => exact ⟨0, rfl, by omega, by omega, ⟨by simpa using HNL.out⟩, HBW⟩
                    case round =>
                      clear HNL HBW
                      obtain ⟨j, rfl, hj, rfl, HNL, HBW⟩ := hrel
                      by_cases hlj : j < 3
                      · skip
                        --[
                        obtain ⟨vn, cn, en⟩ := Kd.R_slice HNL.out
                        subst en
                        have hj3z : (j : Int) < 3 := by omega
                        have hjp : j < px.length := by have := HL3.out; omega
                        obtain ⟨ap, q2, hy⟩ := Kd.at_int HI1.out (j : Int) (by omega) (by omega)
                        cases q2
                        rw [Int.toNat_natCast] at hy
                        replace hy := (HBw.out.cell (World.block_lt_of_cell? w _ hy)).trans hy
                        obtain ⟨b, cpb, c1_, c2_, c3_, c4_, c5_, _⟩ := OnS.put HOS.out rfl p j hlt hlj
                        obtain ⟨hv, hhv⟩ : ∃ hv, hv = H (3 * p + j) := ⟨_, rfl⟩
                        have hbv := HBN.out (3 * p + j)
                        rw [← hhv] at hbv c2_
                        have hrd0 := round16 hv (by omega) (by omega)
                        have hcl0 := clip255 (rd px j + rnd16 hv)
                        have HRD := Aside0.mk hrd0
                        have HCL := Aside0.mk hcl0
                        have HHV := Aside0.mk hhv
                        have hr16 : -99511627776 ≤ rnd16 hv ∧ rnd16 hv ≤ 99511627776 := by unfold rnd16; omega
                        have hpi : 0 ≤ rd px j ∧ rd px j ≤ 255 := by
                          obtain ⟨x1, x2, x3, h3, a1, a2, a3, a4, a5, a6⟩ := isPx_three HPX3.out
                          rw [h3]
                          have : j = 0 ∨ j = 1 ∨ j = 2 := by omega
                          rcases this with h | h | h <;> subst h <;> simp [rd] <;> omega
                        have vw2 : IntKind.i64.wrap (rd px j + rnd16 hv) = rd px j + rnd16 hv := (i64_w _).trans (wrap_in _ (by omega) (by omega))
                        have KS := Aside0.mk (show ∀ W', Below wo.heap.size wo W' → W'.cell? (ad.add p) = some (.slice (some ap) px.length cp) ∧ W'.cell? (ap.add j) = some (.int .i64 (rd px j)) ∧ W'.cell? ⟨g, p, none⟩ = some (.slice (some ⟨b, 0, none⟩) 3 cpb) ∧ W'.cell? ⟨b, j, none⟩ = some (.int .i64 hv) from
                          fun W' hb => ⟨(hb.cell (World.block_lt_of_cell? wo _ HX.out)).trans HX.out, (hb.cell (World.block_lt_of_cell? wo _ hy)).trans hy, (hb.cell (World.block_lt_of_cell? wo _ c1_)).trans c1_, (hb.cell (World.block_lt_of_cell? wo _ c2_)).trans c2_⟩)
                        obtain ⟨s1, s2, s3, s4⟩ := KS.out wr HBW.out
                        obtain ⟨pre, hpre⟩ : ∃ pre, pre = (nowAt px H p).take j := ⟨_, rfl⟩
                        have HNL' := HNL.out
                        rw [← hpre] at HNL'
                        have N5 := Aside0.mk HNL'
                        have hpl : pre.length = j := by rw [hpre]; simp [nowAt]; omega
                        have HNLA := Aside0.mk hpl
                        have HPRE := Aside0.mk hpre
                        rw [show ((nowAt px H p).take j).length = pre.length by rw [hpre]]
                        clear hrd0 hcl0 hhv hy c1_ c2_ c3_ HNL' hpl hpre
                        go_upto_region 16 with (fail)
                        go_region_held3 (fun w' => w'.cell? (ad.add p) = some (.slice (some ap) px.length cp) ∧ w'.cell? (ap.add j) = some (.int .i64 (rd px j)) ∧ w'.cell? ⟨g, p, none⟩ = some (.slice (some ⟨b, 0, none⟩) 3 cpb) ∧ w'.cell? ⟨b, j, none⟩ = some (.int .i64 hv)) (first | (go_keep; done) | exact KS.out _ (by (repeat (first | exact HB3.out | exact HB5.out | exact HBW.out | apply below_drew | apply pw_below_drewN | apply below_alloc))))
                          (first | (go_at_call 40; refine (spec_l05Round.calls hv 16 (rnd16 hv) _ HRD.out).mono ?_; rintro e_ w_ ⟨rfl, ⟨nd, rfl⟩⟩) | (go_at_call 39; refine (spec_l05Clip.calls _ 0 255 _ _ HCL.out).mono ?_; rintro e_ wb ⟨rfl, ⟨nd2, hwb⟩⟩; have HR5 := Aside0.mk (show Kd.R (Kd.int .i64) 3 wb wo.heap.size (fun k => wo.heap.size ≤ k) (.slice vn pre.length cn) pre by rw [hwb]; repeat (first | exact N5.out | apply Kd.R_drewN | apply Kd.R_drew)); have HB5 := Aside0.mk (show Below wo.heap.size wo wb by rw [hwb]; repeat (first | exact HBW.out | apply pw_below_drewN | apply below_drew)); clear hwb) | (refine Kd.R_append_step (Kd.int .i64) (w0 := wo) (W := wb) wo.heap.size (by rfl) (.tmp 61) (.tmp 79) 25 3 (.int .i64 0) 8 (by rfl) Try.underlying25 info3 (by rfl) (by decide) (by omega) _ pre (clip8 (rd px j + rnd16 hv)) [.int .i64 (clip8 (rd px j + rnd16 hv))] (fun k => wo.heap.size ≤ k) (fun _ => False) (by rfl) (by rfl) (by rfl) (fun _ hk => hk.elim) (fun k hk => by have e1 := HB5.out.size; omega) HR5.out HB5.out HB5.out.size (by have := HNLA.out; omega) ?_; intro v80 w3 ho hb hg hat; have HO3 := Aside0.mk ho; have HB3 := Aside0.mk hb; clear ho hb hg hat))
                        go_wp2
                        go_roundg (3 - (j + 1) + 1)
                        case rel =>
                          refine ⟨j + 1, by go_num, by omega, by omega, ⟨?_⟩, HB3⟩
                          have h9 := HO3.out
                          rw [HPRE.out, HHV.out, Nat.mul_comm 3 p, now_next px H p j hlj] at h9
                          exact h9
                        case measure => omega
                        --]
                      · obtain rfl : j = 3 := by omega
                        have hnk := HNL.out
                        rw [show (nowAt px H p).take 3 = nowAt px H p from rfl] at hnk
                        have HNK := Aside0.mk hnk
                        clear hnk HNL
                        obtain ⟨An, cn, en⟩ := Kd.R_slice HNK.out
                        rw [show (nowAt px H p).length = 3 from rfl] at en
                        subst en
                        obtain ⟨best, hbest⟩ : ∃ best, best = nearGo (nowAt px H p) l1 0 0 (-1) := ⟨_, rfl⟩
                        have hcl := isCols_len HQ.out.symm
                        have hbi := near_in (nowAt px H p) l1 0 0 (-1) (by omega) (by omega) (.inr ⟨rfl, rfl, fun e => by rw [e] at hcl; simp at hcl⟩)
                        rw [← hbest] at hbi
                        obtain ⟨b0, b1⟩ := hbi
                        rw [Int.zero_add] at b1
                        obtain ⟨kk, hkk⟩ := (spec_l21Near.ev l1 (nowAt px H p) (nowAt_px px H p) (isCols_all HQ.out.symm) (by omega)).rounds
                        rw [← hbest] at hkk
                        have HKK := Aside0.mk hkk
                        have HBEST := Aside0.mk hbest
                        have hcol : isPx (colAt l1 best) = true := by
                          have hbn : best.toNat < l1.length := by omega
                          rw [show colAt l1 best = l1[best.toNat] by simp [colAt, hbn]]
                          exact isCols_all HQ.out.symm _ (List.getElem_mem hbn)
                        have HCOL := Aside0.mk hcol
                        have HRN := Kd.R_reads' HNK.out
                        have HRN1 := Aside0.mk HRN.2.1
                        have HRN2 := Aside0.mk HRN.2.2
                        have HBwr := Aside0.mk (Below.trans HBw.out (HBW.out.mono HBw.out.size))
                        have hmd : ((p : Int) % (wd : Int)) = ((p % wd : Nat) : Int) := by simp
                        have hwz : ¬ (wd : Int) = 0 := by omega
                        have hll : out.length ≤ 4096 := by have := HL.out; omega
                        clear hkk hbest hcol HRN hcl
                        go_wp2_with fail
                        refine (spec_l21Near.calls kk A1 c1 l1 An cn (nowAt px H p) best _ (Kd.C_below HR1.out HBwr.out) HC1.out HRN2.out HRN1.out HKK.out).mono ?_
                        rintro e_ wb ⟨rfl, ⟨nd, hwb⟩⟩
                        have HBb := Aside0.mk (show Below wo.heap.size wo wb by rw [hwb]; exact pw_below_drewN HBW.out nd)
                        have HNb : Aside0 (Kd.R (Kd.int .i64) 3 wb wo.heap.size (fun k => wo.heap.size ≤ k) (.slice An 3 cn) (nowAt px H p)) := by rw [hwb]; exact ⟨Kd.R_drewN HNK.out nd⟩
                        have HBwb := Aside0.mk (Below.trans HBw.out (HBb.out.mono HBw.out.size))
                        have HOb := Aside0.mk (Kd.R_below HO.out HBb.out)
                        have hN1o := HN1.out
                        have hszb := HBb.out.size
                        clear hwb HBW HNK HRN1 HRN2 HBwr
                        go_upto_region 20 with (first | ((with_reducible refine gate_builtin (b := .append) (xs := #[.tmp 84, .tmp 86]) rfl ?_); at_builtin; refine Kd.R_append (Kd.int .i64) (w0 := w) w.heap.size rfl (.tmp 84) (.tmp 86) 25 3 (.int .i64 0) 8 rfl Try.underlying25 info3 rfl (by decide) (by omega) _ out best [.int .i64 best] (fun k => k < N0 ∨ N1 ≤ k) (fun _ => False) rfl rfl rfl (fun _ hk => hk.elim) (fun k hk => .inr (by omega)) HOb.out HBwb.out HBwb.out.size (by omega) ?_; intro v87 w7 ho hb hg hat; have HO7 := Aside0.mk ho; have HB7 := Aside0.mk hb; have HG7 := Aside0.mk hg; clear ho hb hg hat))
                        have hno : ∀ k, wo.heap.size ≤ k → some k ≠ (Value.slice A7 out.length c7).ownBlock := fun k hk e => absurd (Kd.R_lt HO.out k e.symm) (by omega)
                        have hno2 : ∀ k, N0 ≤ k ∧ k < N1 → some k ≠ (Value.slice A7 out.length c7).ownBlock := fun k hk e => by have := HO.out.1 k e.symm; omega
                        have HS := Aside0.mk (show HandR w wo w7 N0 N1 (.slice (some ⟨g, 0, none⟩) l0.length c8) H l0.length An cn (nowAt px H p) v87 (out ++ [best]) from
                          ⟨Kd.S_grown (Kd.S_below HOS.out HBb.out) HG7.out hno2, Kd.R_grown HNb.out HG7.out hno, HO7.out, HB7.out, by have := HG7.out.size; omega⟩)
                        clear hno hno2 HNb HO7 HB7 HG7 HOb HOS
                        rw [hmd]
                        obtain ⟨xx, hxx⟩ : ∃ xx : Nat, p % wd = xx := ⟨_, rfl⟩
                        rw [hxx]
                        have HXX := Aside0.mk hxx
                        have hxl : xx < wd := by rw [← hxx]; exact Nat.mod_lt p (by omega)
                        clear hxx hmd
                        go_wp2
                        go_loopg [15] 4 (fun kq v15 w' => ∃ j : Nat, v15 = .int .i64 j ∧ j ≤ 3 ∧ kq = 3 - j + 1 ∧ Aside0 (HandR w wo w' N0 N1 (.slice (some ⟨g, 0, none⟩) l0.length c8) (stepUp H p wd l0.length (wrong (nowAt px H p) (colAt l1 best)) j) l0.length An cn (nowAt px H p) v87 (out ++ [best])))
                        case atStart => exact ⟨0, rfl, by omega, by omega, HS⟩
                        case round =>
                          clear HS
                          obtain ⟨j, rfl, hj, rfl, HS⟩ := hrel
                          by_cases hlj : j < 3
                          · have hr2 := HS.out.2.1
                            have hbel := HS.out.2.2.2.1
                            obtain ⟨an, q2, hy⟩ := Kd.at_int (Kd.R_reads' hr2).2.2 (j : Int) (by omega) (by show (j : Int) < 3; omega)
                            cases q2
                            rw [Int.toNat_natCast] at hy
                            obtain ⟨ac, A2, c2, q3, hz, hzl, hz1⟩ := at_L2 HR1.out best b0 b1
                            cases q3
                            have HRW : rd_L2 l1 best = colAt l1 best := rfl
                            rw [HRW] at hz hzl hz1
                            obtain ⟨pa, pb, pc, hpc, _⟩ := isPx_three HCOL.out
                            have hcl3 : j < (colAt l1 best).length := by rw [hpc]; simp; omega
                            obtain ⟨ar, q4, hq⟩ := Kd.at_int hz1 (j : Int) (by omega) (by omega)
                            cases q4
                            rw [Int.toNat_natCast] at hq
                            replace hz := (hbel.cell (World.block_lt_of_cell? w _ hz)).trans hz
                            replace hq := (hbel.cell (World.block_lt_of_cell? w _ hq)).trans hq
                            have hwr := wrong_in (nowAt_px px H p) HCOL.out j
                            obtain ⟨dd, hdd⟩ : ∃ dd, dd = wrong (nowAt px H p) (colAt l1 best) j := ⟨_, rfl⟩
                            have hdd2 : dd = rd (nowAt px H p) j - rd (colAt l1 best) j := hdd
                            rw [← hdd] at hwr
                            have v3 : wrap64 (rd (nowAt px H p) j - rd (colAt l1 best) j) = dd := by rw [← hdd2]; exact wrap_in _ (by omega) (by omega)
                            have v4 : IntKind.i64.wrap (rd (nowAt px H p) j - rd (colAt l1 best) j) = dd := (i64_w _).trans v3
                            have HDD := Aside0.mk hdd
                            have HHB := Aside0.mk (stepUp_bnd HBN.out p wd l0.length (fun j => wrong_in (nowAt_px px H p) HCOL.out j) j)
                            obtain ⟨Hj, hHj⟩ : ∃ Hj, Hj = stepUp H p wd l0.length (wrong (nowAt px H p) (colAt l1 best)) j := ⟨_, rfl⟩
                            have HHJ := Aside0.mk hHj
                            rw [← hHj] at HS HHB
                            have hj3z : (j : Int) < 3 := by omega
                            clear hdd hdd2 hHj hr2 hbel hzl hz1 hpc HRW
                            go_wp2
                            go_quiet (fail)
                            go_upto_if 110 with (fail)
                            have HSq : Aside0 (HandR w wo (wr.drewN nq) N0 N1 (.slice (some ⟨g, 0, none⟩) l0.length c8) Hj l0.length (some an) cn (nowAt px H p) v87 (out ++ [best])) :=
                              ⟨Kd.S_drewN HS.out.1 nq, Kd.R_drewN HS.out.2.1 nq, Kd.R_drewN HS.out.2.2.1 nq, pw_below_drewN HS.out.2.2.2.1 nq, HS.out.2.2.2.2⟩
                            obtain ⟨m1, m2, m3⟩ := mod_facts p wd l0.length (by omega) HMOD.out hlt
                            rw [HXX.out] at m1 m2 m3
                            have M2 := Aside0.mk m2
                            have M3 := Aside0.mk m3
                            obtain ⟨H1, hH1⟩ : ∃ H1, H1 = (if xx + 1 < wd then addAt Hj (3 * (p + 1) + j) (7 * dd) else Hj) := ⟨_, rfl⟩
                            have HH1 := Aside0.mk hH1
                            have HBJ : Aside0 (∀ q, -99511627 ≤ Hj q ∧ Hj q ≤ 99511627) := ⟨fun q => by have := HHB.out q; constructor <;> omega⟩
                            generalize wr.drewN nq = wq at HSq ⊢
                            clear m2 m3 hy hz hq v3 v4 hcl3 hH1
                            go_cut [] from 91 to 203 (fun wx => Aside0 (HandR w wo wx N0 N1 (.slice (some ⟨g, 0, none⟩) l0.length c8) H1 l0.length (some an) cn (nowAt px H p) v87 (out ++ [best])))
                            case first =>
                              by_cases hx1 : xx + 1 < wd
                              · have ht := m1 hx1
                                obtain ⟨b, cpb, q1_, q2_, q3_, q4_⟩ := HandR.put HSq.out hN1o (by omega) (p + 1) j ht hlj
                                have Q4 := Aside0.mk q4_
                                obtain ⟨hb1, hb2⟩ := HBJ.out (3 * (p + 1) + j)
                                obtain ⟨hv, hhv⟩ : ∃ hv, hv = Hj (3 * (p + 1) + j) := ⟨_, rfl⟩
                                rw [← hhv] at q2_ hb1 hb2
                                have HHV := Aside0.mk hhv
                                clear q4_ hhv
                                go_wp2
                                go_region
                                all_goals
                                  go_wp2
                                  go_meet
                                  case rel =>
                                    rw [HH1.out, if_pos hx1]
                                    exact ⟨Q4.out (7 * dd) _ (by rw [HHV.out])⟩
                              · go_wp2
                                go_meet
                                case rel =>
                                  rw [HH1.out, if_neg hx1]
                                  exact HSq
                            case rest =>
                              have HS1 := hcut
                              clear HSq
                              have HB1 : Aside0 (∀ q, -99611627 ≤ H1 q ∧ H1 q ≤ 99611627) := ⟨fun q => by
                                have h1 := HBJ.out q
                                rw [HH1.out]
                                split
                                · unfold addAt; split <;> constructor <;> omega
                                · constructor <;> omega⟩
                              by_cases hge : l0.length ≤ p + wd
                              · go_wp2
                                go_roundg (3 - (j + 1) + 1)
                                case rel =>
                                  refine ⟨j + 1, by go_num, by omega, by omega, ⟨?_⟩⟩
                                  rw [stepUp, ← HHJ.out, ← HDD.out]
                                  have e : stepJ Hj p wd l0.length j dd = H1 := by simp only [stepJ, HXX.out]; rw [if_pos hge]; exact HH1.out.symm
                                  rw [e]
                                  exact HS1.out
                                case measure => omega
                              · have ht2 : p + wd < l0.length := by omega
                                obtain ⟨H2, hH2⟩ : ∃ H2, H2 = (if 0 < xx then addAt H1 (3 * (p + wd - 1) + j) (3 * dd) else H1) := ⟨_, rfl⟩
                                have HH2 := Aside0.mk hH2
                                have HB2 : Aside0 (∀ q, -99711627 ≤ H2 q ∧ H2 q ≤ 99711627) := ⟨fun q => by
                                  have h1 := HB1.out q
                                  rw [hH2]
                                  split
                                  · unfold addAt; split <;> constructor <;> omega
                                  · constructor <;> omega⟩
                                clear hH2
                                go_upto_if 136 with (fail)
                                go_cut [] from 91 to 203 (fun wx => Aside0 (HandR w wo wx N0 N1 (.slice (some ⟨g, 0, none⟩) l0.length c8) H2 l0.length (some an) cn (nowAt px H p) v87 (out ++ [best])))
                                case first =>
                                  by_cases hx0 : 0 < xx
                                  · have ht : p + wd - 1 < l0.length := by omega
                                    obtain ⟨b, cpb, q1_, q2_, q3_, q4_⟩ := HandR.put HS1.out hN1o (by omega) (p + wd - 1) j ht hlj
                                    have Q4 := Aside0.mk q4_
                                    obtain ⟨hb1, hb2⟩ := HB1.out (3 * (p + wd - 1) + j)
                                    obtain ⟨hv, hhv⟩ : ∃ hv, hv = H1 (3 * (p + wd - 1) + j) := ⟨_, rfl⟩
                                    rw [← hhv] at q2_ hb1 hb2
                                    have HHV := Aside0.mk hhv
                                    obtain ⟨tt, htt⟩ : ∃ tt : Nat, tt = p + wd - 1 := ⟨_, rfl⟩
                                    rw [← htt] at q1_ ht
                                    have htz : (p : Int) + (wd : Int) - 1 = (tt : Int) := by omega
                                    have HTT := Aside0.mk htt
                                    clear q4_ hhv htt
                                    go_wp2
                                    go_region
                                    all_goals
                                      go_wp2
                                      go_meet
                                      case rel =>
                                        rw [HH2.out, if_pos hx0]
                                        exact ⟨Q4.out (3 * dd) _ (by rw [HHV.out])⟩
                                  · go_wp2
                                    go_meet
                                    case rel =>
                                      rw [HH2.out, if_neg hx0]
                                      exact HS1
                                case rest =>
                                  have HS2 := hcut
                                  obtain ⟨H3, hH3⟩ : ∃ H3, H3 = addAt H2 (3 * (p + wd) + j) (5 * dd) := ⟨_, rfl⟩
                                  have HH3 := Aside0.mk hH3
                                  have HB3 : Aside0 (∀ q, -99811627 ≤ H3 q ∧ H3 q ≤ 99811627) := ⟨fun q => by
                                    have h1 := HB2.out q
                                    rw [hH3]
                                    unfold addAt; split <;> constructor <;> omega⟩
                                  clear hH3 HS1
                                  go_upto_region 29 with (fail)
                                  go_cut [] from 91 to 203 (fun wx => Aside0 (HandR w wo wx N0 N1 (.slice (some ⟨g, 0, none⟩) l0.length c8) H3 l0.length (some an) cn (nowAt px H p) v87 (out ++ [best])))
                                  case first =>
                                    obtain ⟨b, cpb, q1_, q2_, q3_, q4_⟩ := HandR.put HS2.out hN1o (by omega) (p + wd) j ht2 hlj
                                    have Q4 := Aside0.mk q4_
                                    obtain ⟨hb1, hb2⟩ := HB2.out (3 * (p + wd) + j)
                                    obtain ⟨hv, hhv⟩ : ∃ hv, hv = H2 (3 * (p + wd) + j) := ⟨_, rfl⟩
                                    rw [← hhv] at q2_ hb1 hb2
                                    have HHV := Aside0.mk hhv
                                    clear q4_ hhv
                                    go_wp2
                                    go_region
                                    all_goals
                                      go_wp2
                                      go_meet
                                      case rel =>
                                        rw [HH3.out]
                                        exact ⟨Q4.out (5 * dd) _ (by rw [HHV.out])⟩
                                  case rest =>
                                    have HS3 := hcut
                                    clear HS2
                                    by_cases hx1 : xx + 1 < wd
                                    · have ht3 := M3.out ht2 hx1
                                      obtain ⟨b, cpb, q1_, q2_, q3_, q4_⟩ := HandR.put HS3.out hN1o (by omega) (p + wd + 1) j ht3 hlj
                                      have Q4 := Aside0.mk q4_
                                      obtain ⟨hb1, hb2⟩ := HB3.out (3 * (p + wd + 1) + j)
                                      obtain ⟨hv, hhv⟩ : ∃ hv, hv = H3 (3 * (p + wd + 1) + j) := ⟨_, rfl⟩
                                      rw [← hhv] at q2_ hb1 hb2
                                      have HHV := Aside0.mk hhv
                                      clear q4_ hhv
                                      go_wp2
                                      go_region
                                      all_goals
                                        go_wp2
                                        go_roundg (3 - (j + 1) + 1)
                                        case rel =>
                                          refine ⟨j + 1, by go_num, by omega, by omega, ⟨?_⟩⟩
                                          rw [stepUp, ← HHJ.out, ← HDD.out]
                                          have e : stepJ Hj p wd l0.length j dd = addAt H3 (3 * (p + wd + 1) + j) dd := by
                                            simp only [stepJ, HXX.out]
                                            rw [if_neg hge, if_pos hx1, HH3.out, HH2.out, HH1.out, if_pos hx1]
                                          rw [e]
                                          exact Q4.out dd _ (by rw [HHV.out])
                                        case measure => omega
                                    · go_wp2
                                      go_roundg (3 - (j + 1) + 1)
                                      case rel =>
                                        refine ⟨j + 1, by go_num, by omega, by omega, ⟨?_⟩⟩
                                        rw [stepUp, ← HHJ.out, ← HDD.out]
                                        have e : stepJ Hj p wd l0.length j dd = H3 := by
                                          simp only [stepJ, HXX.out]
                                          rw [if_neg hge, if_neg hx1, HH3.out, HH2.out, HH1.out, if_neg hx1]
                                        rw [e]
                                        exact HS3.out
                                      case measure => omega
                          · obtain rfl : j = 3 := by omega
                            go_wp2
                            go_roundg (l0.length - (p + 1) + 1)
                            case rel =>
                              obtain ⟨z1, z2, z3, z4, z5⟩ := HS.out
                              have hst := stepUp_three H p wd l0.length (wrong (nowAt px H p) (colAt l1 best)) (by omega) HMOD.out hlt
                              rw [hst] at z1
                              refine ⟨p + 1, _, out ++ [best], by go_num, by omega, by omega, ⟨z1⟩, ⟨(Bnd.step HBN.out p wd l0.length _ (fun j => wrong_in (nowAt_px px H p) HCOL.out j)).more (by omega)⟩, ⟨z3⟩, ⟨?_⟩, ⟨by simp [HL.out]⟩, ⟨z4⟩, ⟨z5⟩⟩
                              have hfin := HR.out
                              rw [List.drop_eq_getElem_cons hlt, ← HPXE.out] at hfin
                              simp only [ditGo] at hfin
                              rw [← HBEST.out] at hfin
                              rw [← hfin]
                              simp
                            case measure => omega
                  · obtain rfl : p = l0.length := by omega
                    go_wp2
                    have := HR.out
                    rw [List.drop_length] at this
                    simp only [ditGo, List.append_nil] at this
                    subst this
                    go_ret
                    exact ⟨_, rfl, Kd.R_mono HO.out (fun _ _ => trivial), HBw.out⟩
          · have hmb : ((l0.length : Int) % (wd : Int) != 0) = true := by
              have : (l0.length : Int) % (wd : Int) = ((l0.length % wd : Nat) : Int) := by simp
              rw [this]; simp; omega
            go_wp2
            have := HH.out
            rw [ditM_not (by rw [HOK.out]; simp [hmod])] at this
            subst this
            go_ret
            exact ⟨_, rfl, Kd.R_drewN HO.out _, HB4.out⟩
  · cases h
end Go.Proofs.Ytopebplddfhaeaa.G

namespace Go.Proofs.Ytopebplddfhaeaa.G
open Go.RowKit Go.Proofs.YtopebplddfhaeaaW.PrintWords Go.Proofs.YtopebplddfhaeaaW.PrintLast Go.Proofs.YtopebplddfhaeaaW.PrintMore
attribute [local go_sem] max2_int min2_int max_two min_two max_three min_three max_four min_four   -- for this text's walks alone
/-! ### impl_MapTo: function 15 -/
mutual
def impl_MapTo.j0 : Nat → List (List Int) → List (List Int) → Bool → Option (List Int)
  | 0, _, _, _ => none
  | k + 1, x0, x1, x15 => if x15 = true then (some ([] : List Int)) else (impl_MapTo.l0 k x1 (([] : List Int)) x0 (x0.length : Int) 0)
def impl_MapTo.l0 : Nat → List (List Int) → List Int → List (List Int) → Int → Int → Option (List Int)
  | 0, _, _, _, _, _ => none
  | k + 1, x1, x5, x17, x18, x19 => if x19 < x18 then (if 0 ≤ x19 then (if x19 < (x17.length : Int) then ((impl_nearest.f k x1 (rd_L2 x17 x19)).bind fun t304 => (if x5.length < 17592186044416 then (impl_MapTo.l0 k x1 (x5 ++ [t304]) x17 x18 (wrap64 (x19 + 1))) else (none))) else (none)) else (none)) else (some x5)
end
def impl_MapTo.f (k : Nat) (l0 : List (List Int)) (l1 : List (List Int)) : Option (List Int) := (impl_PixelsOk.f l0).bind fun t298 => (if t298 = true then ((impl_areColours.f l1).bind fun t299 => (impl_MapTo.j0 k l0 l1 (!t299))) else (impl_MapTo.j0 k l0 l1 true))
theorem impl_MapTo.mono_l : ∀ k, (∀ y0 y1 y2, LeO (impl_MapTo.j0 k y0 y1 y2) (impl_MapTo.j0 (k + 1) y0 y1 y2)) ∧ (∀ y0 y1 y2 y3 y4, LeO (impl_MapTo.l0 k y0 y1 y2 y3 y4) (impl_MapTo.l0 (k + 1) y0 y1 y2 y3 y4))
  | 0 => ⟨fun _ _ _ r h => by simp [impl_MapTo.j0] at h, fun _ _ _ _ _ r h => by simp [impl_MapTo.l0] at h⟩
  | k + 1 => by
    obtain ⟨ih0, ih1⟩ := impl_MapTo.mono_l k
    refine ⟨?_, ?_⟩
    · intro y0 y1 y2
      unfold impl_MapTo.j0
      repeat' first
      | (with_reducible exact ih0 _ _ _)
      | (with_reducible exact ih1 _ _ _ _ _)
      | (with_reducible exact impl_nearest.mono _ _ _)
      | (with_reducible exact LeO.refl _)
      | (with_reducible exact LeO.none _)
      | (with_reducible refine LeO.ite ?_ ?_)
      | (with_reducible refine LeO.bind ?_ (fun _ => ?_))
      | exact ih0 _ _ _
      | exact ih1 _ _ _ _ _
      | exact impl_nearest.mono _ _ _
      | exact LeO.none _
      | refine LeO.ite ?_ ?_
      | refine LeO.bind ?_ (fun _ => ?_)
    · intro y0 y1 y2 y3 y4
      unfold impl_MapTo.l0
      repeat' first
      | (with_reducible exact ih0 _ _ _)
      | (with_reducible exact ih1 _ _ _ _ _)
      | (with_reducible exact impl_nearest.mono _ _ _)
      | (with_reducible exact LeO.refl _)
      | (with_reducible exact LeO.none _)
      | (with_reducible refine LeO.ite ?_ ?_)
      | (with_reducible refine LeO.bind ?_ (fun _ => ?_))
      | exact ih0 _ _ _
      | exact ih1 _ _ _ _ _
      | exact impl_nearest.mono _ _ _
      | exact LeO.none _
      | refine LeO.ite ?_ ?_
      | refine LeO.bind ?_ (fun _ => ?_)
theorem impl_MapTo.mono : ∀ a0 a1 k, LeO (impl_MapTo.f k a0 a1) (impl_MapTo.f (k + 1) a0 a1) := by
  intro a0 a1 k
  obtain ⟨ih0, ih1⟩ := impl_MapTo.mono_l k
  unfold impl_MapTo.f
  repeat' first
      | (with_reducible exact ih0 _ _ _)
      | (with_reducible exact ih1 _ _ _ _ _)
      | (with_reducible exact impl_nearest.mono _ _ _)
      | (with_reducible exact LeO.refl _)
      | (with_reducible exact LeO.none _)
      | (with_reducible refine LeO.ite ?_ ?_)
      | (with_reducible refine LeO.bind ?_ (fun _ => ?_))
      | exact ih0 _ _ _
      | exact ih1 _ _ _ _ _
      | exact impl_nearest.mono _ _ _
      | exact LeO.none _
      | refine LeO.ite ?_ ?_
      | refine LeO.bind ?_ (fun _ => ?_)
set_option maxHeartbeats 8000000 in
set_option maxRecDepth 100000 in
theorem impl_MapTo.calls (k : Nat) (A0 : Option Addr) (c0 : Nat) (l0 : List (List Int)) (A1 : Option Addr) (c1 : Nat) (l1 : List (List Int)) (r : List Int) (w : World) (hr0 : Kd.C (Kd.slice 3 (Kd.int .i64)) w A0 l0.length l0) (hc0 : l0.length ≤ c0) (hr1 : Kd.C (Kd.slice 3 (Kd.int .i64)) w A1 l1.length l1) (hc1 : l1.length ≤ c1) (h : impl_MapTo.f k l0 l1 = some r) :
    Calls Try.prog 15 #[.slice A0 l0.length c0, .slice A1 l1.length c1] w fun e w' => ∃ v0_ : Value, e = .returned (v0_) ∧ Kd.R (Kd.int .i64) 3 w' w.heap.size (fun _ => True) v0_ r ∧ Below w.heap.size w w' := by
  have HR0 := Aside0.mk hr0
  have HC0 := Aside0.mk hc0
  clear hr0 hc0
  have HR1 := Aside0.mk hr1
  have HC1 := Aside0.mk hc1
  clear hr1 hc1
  have HB := Aside0.mk (Below.refl w.heap.size w)
  have H : ((impl_PixelsOk.f l0).bind fun t298 => (if t298 = true then ((impl_areColours.f l1).bind fun t299 => (impl_MapTo.j0 k l0 l1 (!t299))) else (impl_MapTo.j0 k l0 l1 true))) = some r := h
  clear h
  have HC3 := Aside0.mk H
  clear H
  go_enter Try.func15, Try.ntmps15
  go_upto_region 1 with (fail)
  go_cut [15] (fun v15 wc => ∃ (kq : Nat) (x15_2 : Bool), v15 = .bool x15_2 ∧ Aside0 (impl_MapTo.j0 kq l0 l1 x15_2 = some r) ∧ Aside0 (kq ≤ k) ∧ Aside0 (Below w.heap.size w wc))
  case first =>
    have H := HC3.out
    clear HC3
    replace H := Option.bind_eq_some_iff.mp H
    obtain ⟨t298, A40, H⟩ := H
    replace H : (if t298 = true then ((impl_areColours.f l1).bind fun t299 => (impl_MapTo.j0 k l0 l1 (!t299))) else (impl_MapTo.j0 k l0 l1 true)) = some r := H
    have A4 := Aside0.mk A40
    clear A40
    by_cases c5 : t298 = true
    · subst c5
      have H1 : ((impl_areColours.f l1).bind fun t299 => (impl_MapTo.j0 k l0 l1 (!t299))) = some r := by rw [if_pos rfl] at H; exact H
      clear H
      have H := H1
      clear H1
      replace H := Option.bind_eq_some_iff.mp H
      obtain ⟨t299, A60, H⟩ := H
      replace H : (impl_MapTo.j0 k l0 l1 (!t299)) = some r := H
      have A6 := Aside0.mk A60
      clear A60
      have H' := Aside0.mk H
      clear H
      go_wp2_with (first | ((with_reducible refine gate_callee (f := 20) rfl ?_); refine goesL_ (some 9) rfl rfl Try.func20 (by kernel_rfl) rfl #[.slice A0 l0.length c0] rfl (by (try simp only [List.map_toArray, List.map_cons, List.map_nil]); first | done | rfl | (simp only [List.length_drop, List.length_take]; rfl)) ?_; (with_reducible refine (impl_PixelsOk.calls _ _ l0 true _ ?side1 ?side2 A4.out).mono ?_); (case side1 => repeat (first | exact (Kd.C_below HR0.out HB.out) | (with_reducible refine Kd.C_alloc ?_ _) | (with_reducible refine Kd.C_drewN ?_ _) | (with_reducible refine Kd.C_drew ?_))); (case side2 => exact HC0.out); rintro e w' ⟨rfl, ⟨nd, rfl⟩⟩; refine ⟨_, rfl, ?_⟩) | (go_at_call 27; (with_reducible refine (impl_areColours.calls _ _ l1 t299 _ ?side1 ?side2 A6.out).mono ?_); (case side1 => repeat (first | exact (Kd.C_below HR1.out (by repeat (first | (with_reducible first | exact HB.out | apply below_alloc | apply pw_below_drewN | apply below_drew1) | exact HB.out))) | (with_reducible refine Kd.C_alloc ?_ _) | (with_reducible refine Kd.C_drewN ?_ _) | (with_reducible refine Kd.C_drew ?_))); (case side2 => exact HC1.out); rintro e w' ⟨rfl, ⟨nd, rfl⟩⟩))
      go_meet
      case rel => exact ⟨_, (!t299), (by first | rfl | (simp; done) | (simp [*]; done)), H', ⟨by first | omega | exact Nat.le_refl _⟩, ⟨by repeat (first | (with_reducible first | exact HB.out | apply below_alloc | apply pw_below_drewN | apply below_drew1) | exact HB.out)⟩⟩
    · replace c5 := Bool.eq_false_iff.mpr c5
      subst c5
      have H1 : (impl_MapTo.j0 k l0 l1 true) = some r := by rw [if_neg (show ¬ (false = true) by decide)] at H; exact H
      clear H
      have H := H1
      clear H1
      have H' := Aside0.mk H
      clear H
      go_wp2_with (first | ((with_reducible refine gate_callee (f := 20) rfl ?_); refine goesL_ (some 9) rfl rfl Try.func20 (by kernel_rfl) rfl #[.slice A0 l0.length c0] rfl (by (try simp only [List.map_toArray, List.map_cons, List.map_nil]); first | done | rfl | (simp only [List.length_drop, List.length_take]; rfl)) ?_; (with_reducible refine (impl_PixelsOk.calls _ _ l0 false _ ?side1 ?side2 A4.out).mono ?_); (case side1 => repeat (first | exact (Kd.C_below HR0.out HB.out) | (with_reducible refine Kd.C_alloc ?_ _) | (with_reducible refine Kd.C_drewN ?_ _) | (with_reducible refine Kd.C_drew ?_))); (case side2 => exact HC0.out); rintro e w' ⟨rfl, ⟨nd, rfl⟩⟩; refine ⟨_, rfl, ?_⟩))
      go_meet
      case rel => exact ⟨_, (true), (by first | rfl | (simp; done) | (simp [*]; done)), H', ⟨by first | omega | exact Nat.le_refl _⟩, ⟨by repeat (first | (with_reducible first | exact HB.out | apply below_alloc | apply pw_below_drewN | apply below_drew1) | exact HB.out)⟩⟩
  case rest =>
    clear HC3
    try clear c1
    try clear c2
    try clear p2
    try clear c5
    obtain ⟨kq, x15_2, rfl, HA, HJ2, HB⟩ := hcut
    cases kq with
    | zero => exact absurd HA.out (by simp [impl_MapTo.j0])
    | succ kj2 =>
      have H := HA.out
      clear HA
      simp only [impl_MapTo.j0] at H
      by_cases c7 : x15_2 = true
      · subst c7
        have H1 : (some ([] : List Int)) = some r := by rw [if_pos rfl] at H; exact H
        clear H
        have H := H1
        clear H1
        obtain rfl := Option.some.inj H
        go_wp2
        go_ret
        exact ⟨_, by first | rfl | (simp [errW_none, errW_some] <;> rfl) | (simp [*, errW_none, errW_some] <;> rfl), by first | exact Kd.R_nil _ _ _ _ _ | exact Kd.N_nil _ _ _ _ _ | exact Kd.V_nil _ _ _ _ _ | exact Kd.Q_nil _ _ _ _ _ | exact Kd.S_nil _ _ _ _ _, by repeat (first | (with_reducible first | exact HB.out | apply below_alloc | apply pw_below_drewN | apply below_drew1) | exact HB.out)⟩
      · replace c7 := Bool.eq_false_iff.mpr c7
        subst c7
        have H1 : (impl_MapTo.l0 kj2 l1 (([] : List Int)) l0 (l0.length : Int) 0) = some r := by rw [if_neg (show ¬ (false = true) by decide)] at H; exact H
        clear H
        have H := H1
        clear H1
        obtain ⟨y300, hy300⟩ : ∃ y_ : List Int, y_ = (([] : List Int)) := ⟨_, rfl⟩
        replace H : (impl_MapTo.l0 kj2 l1 y300 l0 (l0.length : Int) 0) = some r := by first | (rw [hy300]; with_reducible exact H) | (have H2_ := (Option.bind_some _ _).symm.trans H; rw [hy300]; with_reducible exact H2_) | (have H2_ := (Option.bind_some _ _).symm.trans H; with_reducible exact H2_) | with_reducible exact H | (rw [hy300]; exact H) | exact H
        have Ny300 := Aside0.mk hy300
        clear hy300
        have H' := Aside0.mk H
        clear H
        go_wp2_with (first | ((with_reducible refine gate_dst (N := 16) rfl ?_); refine Kd.R_lit (Kd.int .i64) _ 3 ?hg (N := 16) ?hd (xs := ([] : List Int)) (inner := []) (ok := fun _ => True) (okp := fun _ => True) ?hr ?hp (fun _ hk => hk) trivial (Below.refl _ _) (Nat.le_refl _) (by simp) ?_; (case hd => rfl); (case hg => rfl); (case hr => first | (go_simp; done) | (go_simp; rfl)); (case hp => exact (Reps.none _ _)); intro v301 w8 ho9 hb hg_ hnew_; clear hg_ hnew_; (first | rw [← Ny300.out] at ho9 | (simp only [Int.reduceToNat] at ho9; rw [← Ny300.out] at ho9)); have n0_ := Aside0.mk (Kd.R_lower ho9 (below_size (by repeat (first | (with_reducible first | exact HB.out | apply below_alloc | apply pw_below_drewN | apply below_drew1) | exact HB.out)))); have n1_ := Aside0.mk (below_step (by repeat (first | (with_reducible first | exact HB.out | apply below_alloc | apply pw_below_drewN | apply below_drew1) | exact HB.out)) hb); clear HB; have HO302 := n0_; have HB := n1_; clear n0_ n1_; clear hb ho9))
        go_loopg [5, 19] kj2 (fun kq v5 v19 w' => ∃ (x5_2 : List Int) (x19_2 : Int), v19 = .int .i64 x19_2 ∧ Aside0 (impl_MapTo.l0 kq l1 x5_2 l0 (l0.length : Int) x19_2 = some r) ∧ Aside0 (kq ≤ kj2) ∧ Aside0 (Kd.R (Kd.int .i64) 3 w' w.heap.size (fun _ => True) v5 x5_2) ∧ Aside0 (Below w.heap.size w w'))
        case atStart => exact ⟨(y300), (0), (by first | rfl | (simp; done) | (simp [*]; done)), H', ⟨Nat.le_refl _⟩, ⟨by (with_reducible repeat (first | apply Kd.R_alloc | apply Kd.R_drewN | apply Kd.R_drew)); exact HO302.out⟩, ⟨by repeat (first | (with_reducible first | exact HB.out | apply below_alloc | apply pw_below_drewN | apply below_drew1) | exact HB.out)⟩⟩
        case round =>
          clear H'
          try clear c1
          try clear c2
          try clear p2
          try clear c5
          try clear c7
          try clear p2
          obtain ⟨x5_2, x19_2, rfl, HA, HK2, HO_5, HB⟩ := hrel
          cases gk with
          | zero => exact absurd HA.out (by simp [impl_MapTo.l0])
          | succ k2 =>
            have H := HA.out
            clear HA
            simp only [impl_MapTo.l0] at H
            by_cases c10 : x19_2 < (l0.length : Int)
            · rw [if_pos c10] at H
              have c10b0 : decide (x19_2 < (l0.length : Int)) = true := decide_eq_true c10
              clear c10
              by_cases c11 : 0 ≤ x19_2
              · rw [if_pos c11] at H
                have c11b0 : decide (0 ≤ x19_2) = true := decide_eq_true c11
                clear c11
                by_cases c12 : x19_2 < (l0.length : Int)
                · rw [if_pos c12] at H
                  have c12b0 : decide (x19_2 < (l0.length : Int)) = true := decide_eq_true c12
                  clear c12
                  replace H := Option.bind_eq_some_iff.mp H
                  obtain ⟨t304, A130, H⟩ := H
                  replace H : (if x5_2.length < 17592186044416 then (impl_MapTo.l0 k2 l1 (x5_2 ++ [t304]) l0 (l0.length : Int) (wrap64 (x19_2 + 1))) else (none)) = some r := H
                  have A13 := Aside0.mk A130
                  clear A130
                  by_cases c14 : x5_2.length < 17592186044416
                  · rw [if_pos c14] at H
                    have LMc14 := Aside0.mk c14
                    clear c14
                    obtain ⟨y305, hy305⟩ : ∃ y_ : List Int, y_ = (x5_2 ++ [t304]) := ⟨_, rfl⟩
                    replace H : (impl_MapTo.l0 k2 l1 y305 l0 (l0.length : Int) (wrap64 (x19_2 + 1))) = some r := by first | (rw [hy305]; with_reducible exact H) | (have H2_ := (Option.bind_some _ _).symm.trans H; rw [hy305]; with_reducible exact H2_) | (have H2_ := (Option.bind_some _ _).symm.trans H; with_reducible exact H2_) | with_reducible exact H | (rw [hy305]; exact H) | exact H
                    have Ny305 := Aside0.mk hy305
                    clear hy305
                    have H' := Aside0.mk H
                    clear H
                    have p303 : 0 ≤ (x19_2 : Int) := of_decide_eq_true (by first | (with_reducible assumption) | assumption)
                    have q303 : x19_2 < (l0.length : Int) := of_decide_eq_true (by first | (with_reducible assumption) | assumption)
                    obtain ⟨ad303, A303_0, c303_0, e303, hx303_0, hl303_0, hi303_0⟩ := at_L2 HR0.out x19_2 p303 q303
                    cases e303
                    replace hx303_0 := (HB.out.cell (World.block_lt_of_cell? w _ hx303_0)).trans hx303_0
                    have HR303_0 := Aside0.mk hi303_0
                    have HC303_0 := Aside0.mk hl303_0
                    clear hi303_0 hl303_0
                    replace p303 := eq_true p303
                    replace q303 := eq_true q303
                    go_wp2_with (first | ((with_reducible refine gate_callee (f := 29) rfl ?_); refine goesL_ (some 26) rfl rfl Try.func29 (by kernel_rfl) rfl #[.slice A1 l1.length c1, .slice A303_0 (rd_L2 l0 x19_2).length c303_0] rfl (by (try simp only [List.map_toArray, List.map_cons, List.map_nil]); first | done | rfl | (simp only [List.length_drop, List.length_take]; rfl)) ?_; (with_reducible refine (impl_nearest.calls k2 _ _ l1 _ _ (rd_L2 l0 x19_2) t304 _ ?side1 ?side2 ?side3 ?side4 A13.out).mono ?_); (case side1 => repeat (first | exact (Kd.C_below HR1.out HB.out) | (with_reducible refine Kd.C_alloc ?_ _) | (with_reducible refine Kd.C_drewN ?_ _) | (with_reducible refine Kd.C_drew ?_))); (case side2 => exact HC1.out); (case side3 => repeat (first | exact (Kd.C_below HR303_0.out HB.out) | (with_reducible refine Kd.C_alloc ?_ _) | (with_reducible refine Kd.C_drewN ?_ _) | (with_reducible refine Kd.C_drew ?_))); (case side4 => exact HC303_0.out); rintro e w' ⟨rfl, ⟨nd, rfl⟩⟩; refine ⟨_, rfl, ?_⟩) | ((with_reducible refine gate_builtin (b := .append) (xs := #[.tmp 23, .tmp 27]) rfl ?_); at_builtin; refine Kd.R_append (Kd.int .i64) (w0 := w) w.heap.size rfl (.tmp 23) (.tmp 27) 25 3 (.int .i64 0) 8 rfl Try.underlying25 info3 rfl (by decide) (by omega) u5 x5_2 t304 [.int .i64 t304] (fun _ => True) (fun _ => False) rfl rfl ?aP (fun _ hk => hk.elim) ?aF ?aO ?aB ?aS ?aL ?_; (case aP => exact rfl); (case aB => exact (by repeat (first | (with_reducible first | exact HB.out | apply below_alloc | apply pw_below_drewN | apply below_drew1) | exact HB.out))); (case aF => exact (fun _ _ => trivial)); (case aO => exact (by (with_reducible repeat (first | apply Kd.R_alloc | apply Kd.R_drewN | apply Kd.R_drew)); exact HO_5.out)); (case aS => exact (below_size (by repeat (first | (with_reducible first | exact HB.out | apply below_alloc | apply pw_below_drewN | apply below_drew1) | exact HB.out)))); (case aL => have := LMc14.out; omega); intro v306 w15 ho hb hg hat; rw [← Ny305.out] at ho; have n0_ := Aside0.mk (hb); have n1_ := Aside0.mk (ho); clear HB; clear HO_5; have HB := n0_; have HO307 := n1_; clear n0_ n1_; clear ho hb hg hat))
                    go_roundg k2
                    case measure => have := HJ2.out; have := HK2.out; omega
                    case rel => exact ⟨(y305), (wrap64 (x19_2 + 1)), (by first | rfl | (simp; done) | (simp [*]; done)), H', ⟨by have := HJ2.out; have := HK2.out; omega⟩, ⟨by (with_reducible repeat (first | apply Kd.R_alloc | apply Kd.R_drewN | apply Kd.R_drew)); exact HO307.out⟩, ⟨by repeat (first | (with_reducible first | exact HB.out | apply below_alloc | apply pw_below_drewN | apply below_drew1) | exact HB.out)⟩⟩
                  · rw [if_neg c14] at H
                    exact absurd H (by simp)
                · rw [if_neg c12] at H
                  exact absurd H (by simp)
              · rw [if_neg c11] at H
                exact absurd H (by simp)
            · rw [if_neg c10] at H
              have c10b0 : decide (x19_2 < (l0.length : Int)) = false := decide_eq_false c10
              clear c10
              obtain rfl := Option.some.inj H
              go_wp2
              go_ret
              exact ⟨_, by first | rfl | (simp [errW_none, errW_some] <;> rfl) | (simp [*, errW_none, errW_some] <;> rfl), by (with_reducible repeat (first | apply Kd.R_alloc | apply Kd.R_drewN | apply Kd.R_drew)); exact HO_5.out, by repeat (first | (with_reducible first | exact HB.out | apply below_alloc | apply pw_below_drewN | apply below_drew1) | exact HB.out)⟩
theorem mapTo_same_impl (l c : List (List Int)) (hl : l.length ≤ 4096) (hp : ∀ x ∈ l, isPx x = true) (hc : isCols c = true) : Ev (fun k => impl_MapTo.l0 k c [] l (l.length : Int) 0) (l.map fun px => nearGo px c 0 0 (-1)) := by
  have key : ∀ d i : Nat, l.length - i = d → i ≤ l.length → Ev (fun k => impl_MapTo.l0 k c ((l.take i).map fun px => nearGo px c 0 0 (-1)) l (l.length : Int) (i : Int)) (l.map fun px => nearGo px c 0 0 (-1)) := by
    intro d
    induction d with
    | zero =>
      intro i hd hi
      obtain rfl : i = l.length := by omega
      exact Ev.step (fun _ => by rw [impl_MapTo.l0]) (Ev.ng (by omega) (Ev.eq (Ev.now _) (by simp)))
    | succ d ih =>
      intro i hd hi
      have hlt : i < l.length := by omega
      refine Ev.step (fun _ => by rw [impl_MapTo.l0]) (Ev.ip (by omega) (Ev.ip (by omega) (Ev.ip (by omega) ?_)))
      rw [show rd_L2 l (i : Int) = l[i] by simp [rd_L2, hlt], wrap_succ i (by omega)]
      refine Ev.bind (impl_nearest.ev c l[i] (hp _ (List.getElem_mem _)) (isCols_all hc) (by have := isCols_len hc; omega)) (Ev.ip (by simp; omega) ?_)
      have e : ((l.take i).map fun px => nearGo px c 0 0 (-1)) ++ [nearGo l[i] c 0 0 (-1)] = (l.take (i + 1)).map fun px => nearGo px c 0 0 (-1) := by
        rw [List.take_succ_eq_append_getElem hlt, List.map_append]; rfl
      rw [e]
      exact ih (i + 1) (by omega) (by omega)
  exact key _ 0 rfl (by omega)
/-- MapTo, as told -/
def mapM (l c : List (List Int)) : List Int := if (decide (l.length ≤ 4096) && l.all isPx) && isCols c then l.map fun px => nearGo px c 0 0 (-1) else []
theorem impl_MapTo.ev (l c : List (List Int)) : Ev (fun k => impl_MapTo.f k l c) (mapM l c) := by
  unfold impl_MapTo.f mapM
  refine Ev.bind (Ev.c rfl) ?_
  cases hl : (decide (l.length ≤ 4096) && l.all isPx)
  · exact Ev.ng (by simp) (Ev.step (fun _ => by rw [impl_MapTo.j0]) (Ev.ip (by simp) (Ev.eq (Ev.now _) (by simp))))
  · refine Ev.ip rfl (Ev.bind (Ev.c (impl_areColours.val c)) ?_)
    cases hc : isCols c
    · exact Ev.step (fun _ => by rw [impl_MapTo.j0]) (Ev.ip (by simp) (Ev.eq (Ev.now _) (by simp)))
    · rw [Bool.and_eq_true, decide_eq_true_eq, List.all_eq_true] at hl
      exact Ev.step (fun _ => by rw [impl_MapTo.j0]) (Ev.ng (by simp) (Ev.eq (mapTo_same_impl l c hl.1 hl.2 hc) (by simp)))
end Go.Proofs.Ytopebplddfhaeaa.G

namespace Go.Proofs.Ytopebplddfhaeaa.G
open Go.RowKit Go.Proofs.YtopebplddfhaeaaW.PrintWords Go.Proofs.YtopebplddfhaeaaW.PrintLast Go.Proofs.YtopebplddfhaeaaW.PrintMore
attribute [local go_sem] max2_int min2_int max_two min_two max_three min_three max_four min_four   -- for this text's walks alone
/-! ### laws_big: function 6 -/
def laws_big.f (l0 : List Int) : Option (Bool) := some (decide ((l0.length : Int) > 1048576))
set_option maxHeartbeats 8000000 in
set_option maxRecDepth 100000 in
theorem laws_big.calls (A0 : Option Addr) (c0 : Nat) (l0 : List Int) (r : Bool) (w : World) (hr0 : Kd.C (Kd.int .u8) w A0 l0.length l0) (hc0 : l0.length ≤ c0) (h : laws_big.f l0 = some r) :
    Calls Try.prog 6 #[.slice A0 l0.length c0] w fun e w' => e = .returned (.bool r) ∧ Drawn0 w w' := by
  have HR0 := Aside0.mk hr0
  have HC0 := Aside0.mk hc0
  clear hr0 hc0
  have H : (some (decide ((l0.length : Int) > 1048576))) = some r := h
  clear h
  obtain rfl := Option.some.inj H
  go_enter Try.func6, Try.ntmps6
  go_wp2
  go_ret
  exact ⟨by first | rfl | (simp; done) | (simp [*]; done), by repeat (first | exact Drawn0.refl _ | apply Drawn0.step)⟩
end Go.Proofs.Ytopebplddfhaeaa.G

namespace Go.Proofs.Ytopebplddfhaeaa.G
open Go.RowKit Go.Proofs.YtopebplddfhaeaaW.PrintWords Go.Proofs.YtopebplddfhaeaaW.PrintLast Go.Proofs.YtopebplddfhaeaaW.PrintMore
attribute [local go_sem] max2_int min2_int max_two min_two max_three min_three max_four min_four   -- for this text's walks alone
/-! ### laws_FnDithered: function 4 -/
mutual
def laws_FnDithered.l0 : Nat → List (List Int) → Int → List (List Int) → List Int → Int → Option (Bool)
  | 0, _, _, _, _, _ => none
  | k + 1, x3, x4, x5, x6, x7 => if x7 < (x6.length : Int) then (if 0 ≤ x7 then (if (rd x6 x7) < 0 then (some false) else (if (rd x6 x7) ≥ (x5.length : Int) then (some false) else (laws_FnDithered.l0 k x3 x4 x5 x6 (wrap64 (x7 + 1))))) else (none)) else ((impl_MapTo.f k x3 x5).bind fun t325 => (if (t325.length : Int) = 0 then (laws_FnDithered.j1 k x3 x4 x5 x6 t325 true) else (laws_FnDithered.j1 k x3 x4 x5 x6 t325 ((x6.length : Int) != (x3.length : Int)))))
def laws_FnDithered.j1 : Nat → List (List Int) → Int → List (List Int) → List Int → List Int → Bool → Option (Bool)
  | 0, _, _, _, _, _, _ => none
  | k + 1, x3, x4, x5, x6, x8, x62 => if x62 = true then (if (x6.length : Int) = 0 then (some true) else (some ((x6.length : Int) == (x3.length : Int)))) else (laws_FnDithered.l1 k x4 x5 x8 (([] : List (List Int))) 0)
def laws_FnDithered.l1 : Nat → Int → List (List Int) → List Int → List (List Int) → Int → Option (Bool)
  | 0, _, _, _, _, _ => none
  | k + 1, x4, x5, x8, x9, x10 => if x10 < (x8.length : Int) then ((some (([] : List Int) : List Int)).bind fun y331 => (if 0 ≤ x10 then (if 0 ≤ (rd x8 x10) then (if (rd x8 x10) < (x5.length : Int) then (if y331.length + (rd_L2 x5 (rd x8 x10)).length < 17592186044416 then (if x9.length < 5864062014805 then (laws_FnDithered.l1 k x4 x5 x8 (x9 ++ [(y331 ++ (rd_L2 x5 (rd x8 x10)))]) (wrap64 (x10 + 1))) else (none)) else (none)) else (none)) else (none)) else (none))) else ((impl_Dither.f x9 x4 x5).bind fun t342 => ((impl_MapTo.f k x9 x5).bind fun t345 => ((laws_sameInts.f k t342 t345).bind fun t348 => (some t348))))
end
def laws_FnDithered.f (k : Nat) (l0 : List Int) : Option (Bool) := (laws_big.f l0).bind fun t308 => (if t308 = true then (some true) else ((spec_DrawDither.f k l0).bind fun bt309 => ((impl_Dither.f bt309.1 bt309.2.1 bt309.2.2).bind fun t316 => ((spec_Dither.f bt309.1 bt309.2.1 bt309.2.2).bind fun t319 => ((laws_sameInts.f k t316 t319).bind fun t322 => (if t322 = true then (laws_FnDithered.l0 k bt309.1 bt309.2.1 bt309.2.2 t316 0) else (some false)))))))
theorem laws_FnDithered.mono_l : ∀ k, (∀ y0 y1 y2 y3 y4, LeO (laws_FnDithered.l0 k y0 y1 y2 y3 y4) (laws_FnDithered.l0 (k + 1) y0 y1 y2 y3 y4)) ∧ (∀ y0 y1 y2 y3 y4 y5, LeO (laws_FnDithered.j1 k y0 y1 y2 y3 y4 y5) (laws_FnDithered.j1 (k + 1) y0 y1 y2 y3 y4 y5)) ∧ (∀ y0 y1 y2 y3 y4, LeO (laws_FnDithered.l1 k y0 y1 y2 y3 y4) (laws_FnDithered.l1 (k + 1) y0 y1 y2 y3 y4))
  | 0 => ⟨fun _ _ _ _ _ r h => by simp [laws_FnDithered.l0] at h, fun _ _ _ _ _ _ r h => by simp [laws_FnDithered.j1] at h, fun _ _ _ _ _ r h => by simp [laws_FnDithered.l1] at h⟩
  | k + 1 => by
    obtain ⟨ih0, ih1, ih2⟩ := laws_FnDithered.mono_l k
    refine ⟨?_, ?_, ?_⟩
    · intro y0 y1 y2 y3 y4
      unfold laws_FnDithered.l0
      repeat' first
      | (with_reducible exact ih0 _ _ _ _ _)
      | (with_reducible exact ih1 _ _ _ _ _ _)
      | (with_reducible exact ih2 _ _ _ _ _)
      | (with_reducible exact impl_MapTo.mono _ _ _)
      | (with_reducible exact laws_sameInts.mono _ _ _)
      | (with_reducible exact spec_DrawDither.mono _ _)
      | (with_reducible exact LeO.refl _)
      | (with_reducible exact LeO.none _)
      | (with_reducible refine LeO.ite ?_ ?_)
      | (with_reducible refine LeO.bind ?_ (fun _ => ?_))
      | exact ih0 _ _ _ _ _
      | exact ih1 _ _ _ _ _ _
      | exact ih2 _ _ _ _ _
      | exact impl_MapTo.mono _ _ _
      | exact laws_sameInts.mono _ _ _
      | exact spec_DrawDither.mono _ _
      | exact LeO.none _
      | refine LeO.ite ?_ ?_
      | refine LeO.bind ?_ (fun _ => ?_)
    · intro y0 y1 y2 y3 y4 y5
      unfold laws_FnDithered.j1
      repeat' first
      | (with_reducible exact ih0 _ _ _ _ _)
      | (with_reducible exact ih1 _ _ _ _ _ _)
      | (with_reducible exact ih2 _ _ _ _ _)
      | (with_reducible exact impl_MapTo.mono _ _ _)
      | (with_reducible exact laws_sameInts.mono _ _ _)
      | (with_reducible exact spec_DrawDither.mono _ _)
      | (with_reducible exact LeO.refl _)
      | (with_reducible exact LeO.none _)
      | (with_reducible refine LeO.ite ?_ ?_)
      | (with_reducible refine LeO.bind ?_ (fun _ => ?_))
      | exact ih0 _ _ _ _ _
      | exact ih1 _ _ _ _ _ _
      | exact ih2 _ _ _ _ _
      | exact impl_MapTo.mono _ _ _
      | exact laws_sameInts.mono _ _ _
      | exact spec_DrawDither.mono _ _
      | exact LeO.none _
      | refine LeO.ite ?_ ?_
      | refine LeO.bind ?_ (fun _ => ?_)
    · intro y0 y1 y2 y3 y4
      unfold laws_FnDithered.l1
      repeat' first
      | (with_reducible exact ih0 _ _ _ _ _)
      | (with_reducible exact ih1 _ _ _ _ _ _)
      | (with_reducible exact ih2 _ _ _ _ _)
      | (with_reducible exact impl_MapTo.mono _ _ _)
      | (with_reducible exact laws_sameInts.mono _ _ _)
      | (with_reducible exact spec_DrawDither.mono _ _)
      | (with_reducible exact LeO.refl _)
      | (with_reducible exact LeO.none _)
      | (with_reducible refine LeO.ite ?_ ?_)
      | (with_reducible refine LeO.bind ?_ (fun _ => ?_))
      | exact ih0 _ _ _ _ _
      | exact ih1 _ _ _ _ _ _
      | exact ih2 _ _ _ _ _
      | exact impl_MapTo.mono _ _ _
      | exact laws_sameInts.mono _ _ _
      | exact spec_DrawDither.mono _ _
      | exact LeO.none _
      | refine LeO.ite ?_ ?_
      | refine LeO.bind ?_ (fun _ => ?_)
theorem laws_FnDithered.mono : ∀ a0 k, LeO (laws_FnDithered.f k a0) (laws_FnDithered.f (k + 1) a0) := by
  intro a0 k
  obtain ⟨ih0, ih1, ih2⟩ := laws_FnDithered.mono_l k
  unfold laws_FnDithered.f
  repeat' first
      | (with_reducible exact ih0 _ _ _ _ _)
      | (with_reducible exact ih1 _ _ _ _ _ _)
      | (with_reducible exact ih2 _ _ _ _ _)
      | (with_reducible exact impl_MapTo.mono _ _ _)
      | (with_reducible exact laws_sameInts.mono _ _ _)
      | (with_reducible exact spec_DrawDither.mono _ _)
      | (with_reducible exact LeO.refl _)
      | (with_reducible exact LeO.none _)
      | (with_reducible refine LeO.ite ?_ ?_)
      | (with_reducible refine LeO.bind ?_ (fun _ => ?_))
      | exact ih0 _ _ _ _ _
      | exact ih1 _ _ _ _ _ _
      | exact ih2 _ _ _ _ _
      | exact impl_MapTo.mono _ _ _
      | exact laws_sameInts.mono _ _ _
      | exact spec_DrawDither.mono _ _
      | exact LeO.none _
      | refine LeO.ite ?_ ?_
      | refine LeO.bind ?_ (fun _ => ?_)
set_option maxHeartbeats 8000000 in
set_option maxRecDepth 100000 in
theorem laws_FnDithered.calls (k : Nat) (A0 : Option Addr) (c0 : Nat) (l0 : List Int) (r : Bool) (w : World) (hr0 : Kd.C (Kd.int .u8) w A0 l0.length l0) (hc0 : l0.length ≤ c0) (h : laws_FnDithered.f k l0 = some r) :
    Calls Try.prog 4 #[.slice A0 l0.length c0] w fun e w' => e = .returned (.bool r) ∧ Below w.heap.size w w' := by
  have HR0 := Aside0.mk hr0
  have HC0 := Aside0.mk hc0
  clear hr0 hc0
  have HB := Aside0.mk (Below.refl w.heap.size w)
  have H : ((laws_big.f l0).bind fun t308 => (if t308 = true then (some true) else ((spec_DrawDither.f k l0).bind fun bt309 => ((impl_Dither.f bt309.1 bt309.2.1 bt309.2.2).bind fun t316 => ((spec_Dither.f bt309.1 bt309.2.1 bt309.2.2).bind fun t319 => ((laws_sameInts.f k t316 t319).bind fun t322 => (if t322 = true then (laws_FnDithered.l0 k bt309.1 bt309.2.1 bt309.2.2 t316 0) else (some false)))))))) = some r := h
  clear h
  replace H := Option.bind_eq_some_iff.mp H
  obtain ⟨t308, A20, H⟩ := H
  replace H : (if t308 = true then (some true) else ((spec_DrawDither.f k l0).bind fun bt309 => ((impl_Dither.f bt309.1 bt309.2.1 bt309.2.2).bind fun t316 => ((spec_Dither.f bt309.1 bt309.2.1 bt309.2.2).bind fun t319 => ((laws_sameInts.f k t316 t319).bind fun t322 => (if t322 = true then (laws_FnDithered.l0 k bt309.1 bt309.2.1 bt309.2.2 t316 0) else (some false))))))) = some r := H
  have A2 := Aside0.mk A20
  clear A20
  by_cases c3 : t308 = true
  · subst c3
    have H1 : (some true) = some r := by rw [if_pos rfl] at H; exact H
    clear H
    have H := H1
    clear H1
    obtain rfl := Option.some.inj H
    go_enter Try.func4, Try.ntmps4
    go_wp2_with (first | ((with_reducible refine gate_callee (f := 6) rfl ?_); refine goesL_ (some 12) rfl rfl Try.func6 (by kernel_rfl) rfl #[.slice A0 l0.length c0] rfl (by (try simp only [List.map_toArray, List.map_cons, List.map_nil]); first | done | rfl | (simp only [List.length_drop, List.length_take]; rfl)) ?_; (with_reducible refine (laws_big.calls _ _ l0 true _ ?side1 ?side2 A2.out).mono ?_); (case side1 => repeat (first | exact HR0.out | (with_reducible refine Kd.C_alloc ?_ _) | (with_reducible refine Kd.C_drewN ?_ _) | (with_reducible refine Kd.C_drew ?_))); (case side2 => exact HC0.out); rintro e w' ⟨rfl, ⟨nd, rfl⟩⟩; refine ⟨_, rfl, ?_⟩))
    go_ret
    exact ⟨by first | rfl | (simp [errW_none, errW_some] <;> rfl) | (simp [*, errW_none, errW_some] <;> rfl), by repeat (first | (with_reducible first | exact HB.out | apply below_alloc | apply pw_below_drewN | apply below_drew1) | exact HB.out)⟩
  · replace c3 := Bool.eq_false_iff.mpr c3
    subst c3
    have H1 : ((spec_DrawDither.f k l0).bind fun bt309 => ((impl_Dither.f bt309.1 bt309.2.1 bt309.2.2).bind fun t316 => ((spec_Dither.f bt309.1 bt309.2.1 bt309.2.2).bind fun t319 => ((laws_sameInts.f k t316 t319).bind fun t322 => (if t322 = true then (laws_FnDithered.l0 k bt309.1 bt309.2.1 bt309.2.2 t316 0) else (some false)))))) = some r := by rw [if_neg (show ¬ (false = true) by decide)] at H; exact H
    clear H
    have H := H1
    clear H1
    replace H := Option.bind_eq_some_iff.mp H
    obtain ⟨⟨t309, t310, t311⟩, A40, H⟩ := H
    replace H : ((impl_Dither.f t309 t310 t311).bind fun t316 => ((spec_Dither.f t309 t310 t311).bind fun t319 => ((laws_sameInts.f k t316 t319).bind fun t322 => (if t322 = true then (laws_FnDithered.l0 k t309 t310 t311 t316 0) else (some false))))) = some r := H
    have A4 := Aside0.mk A40
    clear A40
    replace H := Option.bind_eq_some_iff.mp H
    obtain ⟨t316, A50, H⟩ := H
    replace H : ((spec_Dither.f t309 t310 t311).bind fun t319 => ((laws_sameInts.f k t316 t319).bind fun t322 => (if t322 = true then (laws_FnDithered.l0 k t309 t310 t311 t316 0) else (some false)))) = some r := H
    have A5 := Aside0.mk A50
    clear A50
    replace H := Option.bind_eq_some_iff.mp H
    obtain ⟨t319, A60, H⟩ := H
    replace H : ((laws_sameInts.f k t316 t319).bind fun t322 => (if t322 = true then (laws_FnDithered.l0 k t309 t310 t311 t316 0) else (some false))) = some r := H
    have A6 := Aside0.mk A60
    clear A60
    replace H := Option.bind_eq_some_iff.mp H
    obtain ⟨t322, A70, H⟩ := H
    replace H : (if t322 = true then (laws_FnDithered.l0 k t309 t310 t311 t316 0) else (some false)) = some r := H
    have A7 := Aside0.mk A70
    clear A70
    by_cases c8 : t322 = true
    · subst c8
      have H1 : (laws_FnDithered.l0 k t309 t310 t311 t316 0) = some r := by rw [if_pos rfl] at H; exact H
      clear H
      have H := H1
      clear H1
      have H' := Aside0.mk H
      clear H
      go_enter Try.func4, Try.ntmps4
      go_wp2_with (first | ((with_reducible refine gate_callee (f := 6) rfl ?_); refine goesL_ (some 12) rfl rfl Try.func6 (by kernel_rfl) rfl #[.slice A0 l0.length c0] rfl (by (try simp only [List.map_toArray, List.map_cons, List.map_nil]); first | done | rfl | (simp only [List.length_drop, List.length_take]; rfl)) ?_; (with_reducible refine (laws_big.calls _ _ l0 false _ ?side1 ?side2 A2.out).mono ?_); (case side1 => repeat (first | exact HR0.out | (with_reducible refine Kd.C_alloc ?_ _) | (with_reducible refine Kd.C_drewN ?_ _) | (with_reducible refine Kd.C_drew ?_))); (case side2 => exact HC0.out); rintro e w' ⟨rfl, ⟨nd, rfl⟩⟩; refine ⟨_, rfl, ?_⟩) | ((with_reducible refine gate_callee (f := 11) rfl ?_); refine goesL_ (some 15) rfl rfl Try.func11 (by kernel_rfl) rfl #[.slice A0 l0.length c0] rfl (by (try simp only [List.map_toArray, List.map_cons, List.map_nil]); first | done | rfl | (simp only [List.length_drop, List.length_take]; rfl)) ?_; (with_reducible refine (spec_DrawDither.calls k _ _ l0 t309 t310 t311 _ ?side1 ?side2 A4.out).mono ?_); (case side1 => repeat (first | exact HR0.out | (with_reducible refine Kd.C_alloc ?_ _) | (with_reducible refine Kd.C_drewN ?_ _) | (with_reducible refine Kd.C_drew ?_))); (case side2 => exact HC0.out); rintro e w9 ⟨v312, v314, rfl, ho0, ho1, hb⟩; refine ⟨_, rfl, ?_⟩; have n0_ := Aside0.mk (Kd.Q_lower ho0 (below_size (by repeat (first | (with_reducible first | exact HB.out | apply below_alloc | apply pw_below_drewN | apply below_drew1) | exact HB.out)))); have n1_ := Aside0.mk (Kd.R_lower ho1 (below_size (by repeat (first | (with_reducible first | exact HB.out | apply below_alloc | apply pw_below_drewN | apply below_drew1) | exact HB.out)))); have n2_ := Aside0.mk (below_step (by repeat (first | (with_reducible first | exact HB.out | apply below_alloc | apply pw_below_drewN | apply below_drew1) | exact HB.out)) hb); clear HB; have HO313 := n0_; have HO315 := n1_; have HB := n2_; clear n0_ n1_ n2_; (try clear hb); (try clear hb2); (try clear hk); (try clear hi); (try clear ho0); (try clear ho1); obtain ⟨Ao10, co10, eo10, _⟩ := Kd.Q_slice HO313.out; subst eo10; obtain ⟨Ao11, co11, eo11⟩ := Kd.R_slice HO315.out; subst eo11) | ((with_reducible refine gate_callee (f := 12) rfl ?_); refine goesL_ (some 22) rfl rfl Try.func12 (by kernel_rfl) rfl #[.slice Ao10 t309.length co10, .int .i64 t310, .slice Ao11 t311.length co11] rfl (by (try simp only [List.map_toArray, List.map_cons, List.map_nil]); first | done | rfl | (simp only [List.length_drop, List.length_take]; rfl)) ?_; (with_reducible refine (impl_Dither.calls _ _ t309 t310 _ _ t311 t316 _ ?side1 ?side2 ?side3 ?side4 A5.out).mono ?_); (case side1 => repeat (first | exact (Kd.Q_reads' HO313.out).2.2 | (with_reducible refine Kd.C_alloc ?_ _) | (with_reducible refine Kd.C_drewN ?_ _) | (with_reducible refine Kd.C_drew ?_))); (case side2 => exact (Kd.Q_reads' HO313.out).2.1); (case side3 => repeat (first | exact (Kd.R_reads' HO315.out).2.2 | (with_reducible refine Kd.C_alloc ?_ _) | (with_reducible refine Kd.C_drewN ?_ _) | (with_reducible refine Kd.C_drew ?_))); (case side4 => exact (Kd.R_reads' HO315.out).2.1); rintro e w12 ⟨v317, rfl, ho0, hb⟩; refine ⟨_, rfl, ?_⟩; have n0_ := Aside0.mk (Kd.Q_elder' (by (with_reducible repeat (first | apply Kd.Q_alloc | apply Kd.Q_drewN | apply Kd.Q_drew)); exact HO313.out) (Kd.R_base ho0) hb); have n1_ := Aside0.mk (Kd.R_elder' (by (with_reducible repeat (first | apply Kd.R_alloc | apply Kd.R_drewN | apply Kd.R_drew)); exact HO315.out) (Kd.R_base ho0) hb); have n2_ := Aside0.mk (Kd.R_lower ho0 (below_size (by repeat (first | (with_reducible first | exact HB.out | apply below_alloc | apply pw_below_drewN | apply below_drew1) | exact HB.out)))); have n3_ := Aside0.mk (below_step (by repeat (first | (with_reducible first | exact HB.out | apply below_alloc | apply pw_below_drewN | apply below_drew1) | exact HB.out)) hb); clear HO313; clear HO315; clear HB; have HO313 := n0_; have HO315 := n1_; have HO318 := n2_; have HB := n3_; clear n0_ n1_ n2_ n3_; (try clear hb); (try clear hb2); (try clear hk); (try clear hi); (try clear ho0)) | ((with_reducible refine gate_callee (f := 14) rfl ?_); refine goesL_ (some 27) rfl rfl Try.func14 (by kernel_rfl) rfl #[.slice Ao10 t309.length co10, .int .i64 t310, .slice Ao11 t311.length co11] rfl (by (try simp only [List.map_toArray, List.map_cons, List.map_nil]); first | done | rfl | (simp only [List.length_drop, List.length_take]; rfl)) ?_; (with_reducible refine (spec_Dither.calls _ _ t309 t310 _ _ t311 t319 _ ?side1 ?side2 ?side3 ?side4 A6.out).mono ?_); (case side1 => repeat (first | exact (Kd.Q_reads' HO313.out).2.2 | (with_reducible refine Kd.C_alloc ?_ _) | (with_reducible refine Kd.C_drewN ?_ _) | (with_reducible refine Kd.C_drew ?_))); (case side2 => exact (Kd.Q_reads' HO313.out).2.1); (case side3 => repeat (first | exact (Kd.R_reads' HO315.out).2.2 | (with_reducible refine Kd.C_alloc ?_ _) | (with_reducible refine Kd.C_drewN ?_ _) | (with_reducible refine Kd.C_drew ?_))); (case side4 => exact (Kd.R_reads' HO315.out).2.1); rintro e w13 ⟨v320, rfl, ho0, hb⟩; refine ⟨_, rfl, ?_⟩; have n0_ := Aside0.mk (Kd.Q_elder' (by (with_reducible repeat (first | apply Kd.Q_alloc | apply Kd.Q_drewN | apply Kd.Q_drew)); exact HO313.out) (Kd.R_base ho0) hb); have n1_ := Aside0.mk (Kd.R_elder' (by (with_reducible repeat (first | apply Kd.R_alloc | apply Kd.R_drewN | apply Kd.R_drew)); exact HO315.out) (Kd.R_base ho0) hb); have n2_ := Aside0.mk (Kd.R_elder' (by (with_reducible repeat (first | apply Kd.R_alloc | apply Kd.R_drewN | apply Kd.R_drew)); exact HO318.out) (Kd.R_base ho0) hb); have n3_ := Aside0.mk (Kd.R_lower (Kd.R_new' ho0 (Kd.R_lt (by (with_reducible repeat (first | apply Kd.R_alloc | apply Kd.R_drewN | apply Kd.R_drew)); exact HO318.out))) (below_size (by repeat (first | (with_reducible first | exact HB.out | apply below_alloc | apply pw_below_drewN | apply below_drew1) | exact HB.out)))); have n4_ := Aside0.mk (below_step (by repeat (first | (with_reducible first | exact HB.out | apply below_alloc | apply pw_below_drewN | apply below_drew1) | exact HB.out)) hb); clear HO313; clear HO315; clear HO318; clear HB; have HO313 := n0_; have HO315 := n1_; have HO318 := n2_; have HO321 := n3_; have HB := n4_; clear n0_ n1_ n2_ n3_ n4_; (try clear hb); (try clear hb2); (try clear hk); (try clear hi); (try clear ho0); obtain ⟨Ao14, co14, eo14⟩ := Kd.R_slice HO318.out; subst eo14; obtain ⟨Ao15, co15, eo15⟩ := Kd.R_slice HO321.out; subst eo15) | ((with_reducible refine gate_callee (f := 13) rfl ?_); refine goesL_ (some 28) rfl rfl Try.func13 (by kernel_rfl) rfl #[.slice Ao14 t316.length co14, .slice Ao15 t319.length co15] rfl (by (try simp only [List.map_toArray, List.map_cons, List.map_nil]); first | done | rfl | (simp only [List.length_drop, List.length_take]; rfl)) ?_; (with_reducible refine (laws_sameInts.calls k _ _ t316 _ _ t319 true _ ?side1 ?side2 ?side3 ?side4 A7.out).mono ?_); (case side1 => repeat (first | exact (Kd.R_reads' HO318.out).2.2 | (with_reducible refine Kd.C_alloc ?_ _) | (with_reducible refine Kd.C_drewN ?_ _) | (with_reducible refine Kd.C_drew ?_))); (case side2 => exact (Kd.R_reads' HO318.out).2.1); (case side3 => repeat (first | exact (Kd.R_reads' HO321.out).2.2 | (with_reducible refine Kd.C_alloc ?_ _) | (with_reducible refine Kd.C_drewN ?_ _) | (with_reducible refine Kd.C_drew ?_))); (case side4 => exact (Kd.R_reads' HO321.out).2.1); rintro e w' ⟨rfl, ⟨nd, rfl⟩⟩; refine ⟨_, rfl, ?_⟩))
      go_loopg [7] k (fun kq v7 w' => ∃ (x7_1 : Int), v7 = .int .i64 x7_1 ∧ Aside0 (laws_FnDithered.l0 kq t309 t310 t311 t316 x7_1 = some r) ∧ Aside0 (kq ≤ k) ∧ Aside0 (Kd.Q (Kd.slice 3 (Kd.int .i64)) 25 w' w.heap.size (fun k_ => some k_ ≠ ((.slice Ao11 t311.length co11) : Value).ownBlock ∧ some k_ ≠ ((.slice Ao14 t316.length co14) : Value).ownBlock) (.slice Ao10 t309.length co10) t309) ∧ Aside0 (Kd.R (Kd.slice 3 (Kd.int .i64)) 25 w' w.heap.size (fun k_ => some k_ ≠ ((.slice Ao10 t309.length co10) : Value).ownBlock ∧ some k_ ≠ ((.slice Ao14 t316.length co14) : Value).ownBlock) (.slice Ao11 t311.length co11) t311) ∧ Aside0 (Kd.R (Kd.int .i64) 3 w' w.heap.size (fun _ => True) (.slice Ao14 t316.length co14) t316) ∧ Aside0 (Below w.heap.size w w'))
      case atStart => exact ⟨(0), (by first | rfl | (simp; done) | (simp [*]; done)), H', ⟨Nat.le_refl _⟩, ⟨by (with_reducible repeat (first | apply Kd.Q_alloc | apply Kd.Q_drewN | apply Kd.Q_drew)); exact Kd.Q_mono HO313.out (fun _ hk => ⟨hk.1.1, hk.1.2⟩)⟩, ⟨by (with_reducible repeat (first | apply Kd.R_alloc | apply Kd.R_drewN | apply Kd.R_drew)); exact Kd.R_mono HO315.out (fun _ hk => ⟨hk.1.1, hk.1.2⟩)⟩, ⟨by (with_reducible repeat (first | apply Kd.R_alloc | apply Kd.R_drewN | apply Kd.R_drew)); exact Kd.R_mono HO318.out (fun _ hk => trivial)⟩, ⟨by repeat (first | (with_reducible first | exact HB.out | apply below_alloc | apply pw_below_drewN | apply below_drew1) | exact HB.out)⟩⟩
      case round =>
        clear H'
        try clear c1
        try clear p2
        try clear c3
        try clear c4
        try clear c6
        try clear c8
        try clear c11
        try clear c12
        try clear c13
        try clear c14
        obtain ⟨x7_1, rfl, HA, HK1, HO_3, HO_5, HO_6, HB⟩ := hrel
        cases gk with
        | zero => exact absurd HA.out (by simp [laws_FnDithered.l0])
        | succ k1 =>
          have H := HA.out
          clear HA
          simp only [laws_FnDithered.l0] at H
          by_cases c16 : x7_1 < (t316.length : Int)
          · rw [if_pos c16] at H
            have c16b0 : decide (x7_1 < (t316.length : Int)) = true := decide_eq_true c16
            clear c16
            by_cases c17 : 0 ≤ x7_1
            · rw [if_pos c17] at H
              have c17b0 : decide (0 ≤ x7_1) = true := decide_eq_true c17
              clear c17
              by_cases c18 : (rd t316 x7_1) < 0
              · rw [if_pos c18] at H
                have c18b0 : decide ((rd t316 x7_1) < 0) = true := decide_eq_true c18
                clear c18
                obtain rfl := Option.some.inj H
                have p323 : 0 ≤ (x7_1 : Int) := of_decide_eq_true (by first | (with_reducible assumption) | assumption)
                have q323 : x7_1 < (t316.length : Int) := of_decide_eq_true (by first | (with_reducible assumption) | assumption)
                obtain ⟨ad323, e323, hx323_0⟩ := Kd.at_int (Kd.R_reads' HO_6.out).2.2 x7_1 p323 q323
                cases e323
                replace p323 := eq_true p323
                replace q323 := eq_true q323
                go_wp2
                go_ret
                exact ⟨by first | rfl | (simp [errW_none, errW_some] <;> rfl) | (simp [*, errW_none, errW_some] <;> rfl), by repeat (first | (with_reducible first | exact HB.out | apply below_alloc | apply pw_below_drewN | apply below_drew1) | exact HB.out)⟩
              · rw [if_neg c18] at H
                have c18b0 : decide ((rd t316 x7_1) < 0) = false := decide_eq_false c18
                clear c18
                by_cases c19 : (rd t316 x7_1) ≥ (t311.length : Int)
                · rw [if_pos c19] at H
                  have c19b0 : decide ((t311.length : Int) ≤ (rd t316 x7_1)) = true := decide_eq_true c19
                  clear c19
                  obtain rfl := Option.some.inj H
                  have p323 : 0 ≤ (x7_1 : Int) := of_decide_eq_true (by first | (with_reducible assumption) | assumption)
                  have q323 : x7_1 < (t316.length : Int) := of_decide_eq_true (by first | (with_reducible assumption) | assumption)
                  obtain ⟨ad323, e323, hx323_0⟩ := Kd.at_int (Kd.R_reads' HO_6.out).2.2 x7_1 p323 q323
                  cases e323
                  replace p323 := eq_true p323
                  replace q323 := eq_true q323
                  have p324 : 0 ≤ (x7_1 : Int) := of_decide_eq_true (by first | (with_reducible assumption) | assumption)
                  have q324 : x7_1 < (t316.length : Int) := of_decide_eq_true (by first | (with_reducible assumption) | assumption)
                  obtain ⟨ad324, e324, hx324_0⟩ := Kd.at_int (Kd.R_reads' HO_6.out).2.2 x7_1 p324 q324
                  obtain rfl : ad323 = ad324 := (by injection e324)
                  replace p324 := eq_true p324
                  replace q324 := eq_true q324
                  go_wp2
                  go_ret
                  exact ⟨by first | rfl | (simp [errW_none, errW_some] <;> rfl) | (simp [*, errW_none, errW_some] <;> rfl), by repeat (first | (with_reducible first | exact HB.out | apply below_alloc | apply pw_below_drewN | apply below_drew1) | exact HB.out)⟩
                · rw [if_neg c19] at H
                  have c19b0 : decide ((t311.length : Int) ≤ (rd t316 x7_1)) = false := decide_eq_false c19
                  clear c19
                  have H' := Aside0.mk H
                  clear H
                  have p323 : 0 ≤ (x7_1 : Int) := of_decide_eq_true (by first | (with_reducible assumption) | assumption)
                  have q323 : x7_1 < (t316.length : Int) := of_decide_eq_true (by first | (with_reducible assumption) | assumption)
                  obtain ⟨ad323, e323, hx323_0⟩ := Kd.at_int (Kd.R_reads' HO_6.out).2.2 x7_1 p323 q323
                  cases e323
                  replace p323 := eq_true p323
                  replace q323 := eq_true q323
                  have p324 : 0 ≤ (x7_1 : Int) := of_decide_eq_true (by first | (with_reducible assumption) | assumption)
                  have q324 : x7_1 < (t316.length : Int) := of_decide_eq_true (by first | (with_reducible assumption) | assumption)
                  obtain ⟨ad324, e324, hx324_0⟩ := Kd.at_int (Kd.R_reads' HO_6.out).2.2 x7_1 p324 q324
                  obtain rfl : ad323 = ad324 := (by injection e324)
                  replace p324 := eq_true p324
                  replace q324 := eq_true q324
                  go_wp2
                  go_roundg k1
                  case measure => have := HK1.out; omega
                  case rel => exact ⟨(wrap64 (x7_1 + 1)), (by first | rfl | (simp; done) | (simp [*]; done)), H', ⟨by have := HK1.out; omega⟩, ⟨by (with_reducible repeat (first | apply Kd.Q_alloc | apply Kd.Q_drewN | apply Kd.Q_drew)); exact HO_3.out⟩, ⟨by (with_reducible repeat (first | apply Kd.R_alloc | apply Kd.R_drewN | apply Kd.R_drew)); exact HO_5.out⟩, ⟨by (with_reducible repeat (first | apply Kd.R_alloc | apply Kd.R_drewN | apply Kd.R_drew)); exact HO_6.out⟩, ⟨by repeat (first | (with_reducible first | exact HB.out | apply below_alloc | apply pw_below_drewN | apply below_drew1) | exact HB.out)⟩⟩
            · rw [if_neg c17] at H
              exact absurd H (by simp)
          · rw [if_neg c16] at H
            have c16b0 : decide (x7_1 < (t316.length : Int)) = false := decide_eq_false c16
            clear c16
            replace H := Option.bind_eq_some_iff.mp H
            obtain ⟨t325, A200, H⟩ := H
            replace H : (if (t325.length : Int) = 0 then (laws_FnDithered.j1 k1 t309 t310 t311 t316 t325 true) else (laws_FnDithered.j1 k1 t309 t310 t311 t316 t325 ((t316.length : Int) != (t309.length : Int)))) = some r := H
            have A20 := Aside0.mk A200
            clear A200
            have HC21 := Aside0.mk H
            clear H
            go_upto_region 13 with (first | ((with_reducible refine gate_callee (f := 15) rfl ?_); refine goesL_ (some 52) rfl rfl Try.func15 (by kernel_rfl) rfl #[.slice Ao10 t309.length co10, .slice Ao11 t311.length co11] rfl (by (try simp only [List.map_toArray, List.map_cons, List.map_nil]); first | done | rfl | (simp only [List.length_drop, List.length_take]; rfl)) ?_; (with_reducible refine (impl_MapTo.calls k1 _ _ t309 _ _ t311 t325 _ ?side1 ?side2 ?side3 ?side4 A20.out).mono ?_); (case side1 => repeat (first | exact (Kd.Q_reads' HO_3.out).2.2 | (with_reducible refine Kd.C_alloc ?_ _) | (with_reducible refine Kd.C_drewN ?_ _) | (with_reducible refine Kd.C_drew ?_))); (case side2 => exact (Kd.Q_reads' HO_3.out).2.1); (case side3 => repeat (first | exact (Kd.R_reads' HO_5.out).2.2 | (with_reducible refine Kd.C_alloc ?_ _) | (with_reducible refine Kd.C_drewN ?_ _) | (with_reducible refine Kd.C_drew ?_))); (case side4 => exact (Kd.R_reads' HO_5.out).2.1); rintro e w22 ⟨v326, rfl, ho0, hb⟩; refine ⟨_, rfl, ?_⟩; have n0_ := Aside0.mk (Kd.Q_elder' (by (with_reducible repeat (first | apply Kd.Q_alloc | apply Kd.Q_drewN | apply Kd.Q_drew)); exact HO_3.out) (Kd.R_base ho0) hb); have n1_ := Aside0.mk (Kd.R_elder' (by (with_reducible repeat (first | apply Kd.R_alloc | apply Kd.R_drewN | apply Kd.R_drew)); exact HO_5.out) (Kd.R_base ho0) hb); have n2_ := Aside0.mk (Kd.R_elder' (by (with_reducible repeat (first | apply Kd.R_alloc | apply Kd.R_drewN | apply Kd.R_drew)); exact HO_6.out) (Kd.R_base ho0) hb); have n3_ := Aside0.mk (Kd.R_lower (Kd.R_new' ho0 (Kd.R_lt (by (with_reducible repeat (first | apply Kd.R_alloc | apply Kd.R_drewN | apply Kd.R_drew)); exact HO_6.out))) (below_size (by repeat (first | (with_reducible first | exact HB.out | apply below_alloc | apply pw_below_drewN | apply below_drew1) | exact HB.out)))); have n4_ := Aside0.mk (below_step (by repeat (first | (with_reducible first | exact HB.out | apply below_alloc | apply pw_below_drewN | apply below_drew1) | exact HB.out)) hb); clear HO_3; clear HO_5; clear HO_6; clear HB; have HO_3 := n0_; have HO_5 := n1_; have HO_6 := n2_; have HO327 := n3_; have HB := n4_; clear n0_ n1_ n2_ n3_ n4_; (try clear hb); (try clear hb2); (try clear hk); (try clear hi); (try clear ho0)))
            (try simp only [Act.put, List.setIfInBounds_toArray, List.set_cons_zero, List.set_cons_succ])
            go_cut [62] (fun v62 wc => ∃ (kq : Nat) (x62_20 : Bool), v62 = .bool x62_20 ∧ Aside0 (laws_FnDithered.j1 kq t309 t310 t311 t316 t325 x62_20 = some r) ∧ Aside0 (kq ≤ k1) ∧ Aside0 (Kd.Q (Kd.slice 3 (Kd.int .i64)) 25 wc w.heap.size (fun k_ => some k_ ≠ ((.slice Ao11 t311.length co11) : Value).ownBlock ∧ some k_ ≠ ((.slice Ao14 t316.length co14) : Value).ownBlock ∧ some k_ ≠ (v326 : Value).ownBlock) (.slice Ao10 t309.length co10) t309) ∧ Aside0 (Kd.R (Kd.slice 3 (Kd.int .i64)) 25 wc w.heap.size (fun k_ => some k_ ≠ ((.slice Ao10 t309.length co10) : Value).ownBlock ∧ some k_ ≠ ((.slice Ao14 t316.length co14) : Value).ownBlock ∧ some k_ ≠ (v326 : Value).ownBlock) (.slice Ao11 t311.length co11) t311) ∧ Aside0 (Kd.R (Kd.int .i64) 3 wc w.heap.size (fun k_ => some k_ ≠ (v326 : Value).ownBlock) (.slice Ao14 t316.length co14) t316) ∧ Aside0 (Kd.R (Kd.int .i64) 3 wc w.heap.size (fun k_ => some k_ ≠ ((.slice Ao14 t316.length co14) : Value).ownBlock) v326 t325) ∧ Aside0 (Below w.heap.size w wc))
            case first =>
              have H := HC21.out
              clear HC21
              by_cases c23 : (t325.length : Int) = 0
              · rw [if_pos c23] at H
                have c23b0 : ((t325.length : Int) == 0) = true := beq_iff_eq.mpr c23
                have c23b1 : ((t325.length : Int) != 0) = false := bne_eq_false_iff_eq.mpr c23
                clear c23
                (first | rw [c23b0] | (simp only [i64_w, i32_w]; rw [c23b0]) | skip)
                have H' := Aside0.mk H
                clear H
                obtain ⟨Ao24, co24, eo24⟩ := Kd.R_slice HO327.out
                subst eo24
                go_wp2
                go_meet
                case rel => exact ⟨_, (true), (by first | rfl | (simp; done) | (simp [*]; done)), H', ⟨by have := HK1.out; first | omega | exact Nat.le_refl _⟩, ⟨by (with_reducible repeat (first | apply Kd.Q_alloc | apply Kd.Q_drewN | apply Kd.Q_drew)); exact Kd.Q_mono HO_3.out (fun _ hk => ⟨hk.1.1, ⟨hk.1.2, hk.2⟩⟩)⟩, ⟨by (with_reducible repeat (first | apply Kd.R_alloc | apply Kd.R_drewN | apply Kd.R_drew)); exact Kd.R_mono HO_5.out (fun _ hk => ⟨hk.1.1, ⟨hk.1.2, hk.2⟩⟩)⟩, ⟨by (with_reducible repeat (first | apply Kd.R_alloc | apply Kd.R_drewN | apply Kd.R_drew)); exact Kd.R_mono HO_6.out (fun _ hk => hk.2)⟩, ⟨by (with_reducible repeat (first | apply Kd.R_alloc | apply Kd.R_drewN | apply Kd.R_drew)); exact Kd.R_mono HO327.out (fun _ hk => hk.2)⟩, ⟨by repeat (first | (with_reducible first | exact HB.out | apply below_alloc | apply pw_below_drewN | apply below_drew1) | exact HB.out)⟩⟩
              · rw [if_neg c23] at H
                have c23b0 : ((t325.length : Int) == 0) = false := beq_eq_false_iff_ne.mpr c23
                have c23b1 : ((t325.length : Int) != 0) = true := bne_iff_ne.mpr c23
                have c23b2 : ¬ (t325 = []) := fun h_ => c23 (by rw [h_]; rfl)
                (first | rw [c23b0] | (simp only [i64_w, i32_w]; rw [c23b0]) | skip)
                have H' := Aside0.mk H
                clear H
                obtain ⟨Ao25, co25, eo25⟩ := Kd.R_slice HO327.out
                subst eo25
                go_wp2
                go_meet
                case rel => exact ⟨_, (((t316.length : Int) != (t309.length : Int))), (by first | rfl | (simp; done) | (simp [*]; done)), H', ⟨by have := HK1.out; first | omega | exact Nat.le_refl _⟩, ⟨by (with_reducible repeat (first | apply Kd.Q_alloc | apply Kd.Q_drewN | apply Kd.Q_drew)); exact Kd.Q_mono HO_3.out (fun _ hk => ⟨hk.1.1, ⟨hk.1.2, hk.2⟩⟩)⟩, ⟨by (with_reducible repeat (first | apply Kd.R_alloc | apply Kd.R_drewN | apply Kd.R_drew)); exact Kd.R_mono HO_5.out (fun _ hk => ⟨hk.1.1, ⟨hk.1.2, hk.2⟩⟩)⟩, ⟨by (with_reducible repeat (first | apply Kd.R_alloc | apply Kd.R_drewN | apply Kd.R_drew)); exact Kd.R_mono HO_6.out (fun _ hk => hk.2)⟩, ⟨by (with_reducible repeat (first | apply Kd.R_alloc | apply Kd.R_drewN | apply Kd.R_drew)); exact Kd.R_mono HO327.out (fun _ hk => hk.2)⟩, ⟨by repeat (first | (with_reducible first | exact HB.out | apply below_alloc | apply pw_below_drewN | apply below_drew1) | exact HB.out)⟩⟩
            case rest =>
              clear HC21
              try clear c1
              try clear c2
              try clear p2
              try clear c3
              try clear p3
              try clear q3
              try clear hx3
              try clear c4
              try clear c6
              try clear p6
              try clear c8
              try clear c11
              try clear c12
              try clear c13
              try clear c14
              try clear c15
              try clear c16
              try clear c16b0
              try clear c17
              try clear c17b0
              try clear c18
              try clear c18b0
              try clear c19
              try clear c19b0
              try clear c23
              try clear c23b0
              try clear c23b1
              try clear c23b2
              try clear hx323_0
              try clear hx324_0
              try clear p2
              try clear p323
              try clear p324
              try clear q323
              try clear q324
              obtain ⟨kq, x62_20, rfl, HA, HJ20, HO_3, HO_5, HO_6, HO_8, HB⟩ := hcut
              cases kq with
              | zero => exact absurd HA.out (by simp [laws_FnDithered.j1])
              | succ kj20 =>
                have H := HA.out
                clear HA
                simp only [laws_FnDithered.j1] at H
                by_cases c26 : x62_20 = true
                · subst c26
                  have H1 : (if (t316.length : Int) = 0 then (some true) else (some ((t316.length : Int) == (t309.length : Int)))) = some r := by rw [if_pos rfl] at H; exact H
                  clear H
                  have H := H1
                  clear H1
                  by_cases c27 : (t316.length : Int) = 0
                  · rw [if_pos c27] at H
                    have c27b0 : ((t316.length : Int) == 0) = true := beq_iff_eq.mpr c27
                    have c27b1 : ((t316.length : Int) != 0) = false := bne_eq_false_iff_eq.mpr c27
                    clear c27
                    obtain rfl := Option.some.inj H
                    go_wp2
                    go_ret
                    exact ⟨by first | rfl | (simp [errW_none, errW_some] <;> rfl) | (simp [*, errW_none, errW_some] <;> rfl), by repeat (first | (with_reducible first | exact HB.out | apply below_alloc | apply pw_below_drewN | apply below_drew1) | exact HB.out)⟩
                  · rw [if_neg c27] at H
                    have c27b0 : ((t316.length : Int) == 0) = false := beq_eq_false_iff_ne.mpr c27
                    have c27b1 : ((t316.length : Int) != 0) = true := bne_iff_ne.mpr c27
                    have c27b2 : ¬ (t316 = []) := fun h_ => c27 (by rw [h_]; rfl)
                    obtain rfl := Option.some.inj H
                    go_wp2
                    go_ret
                    exact ⟨by first | rfl | (simp [errW_none, errW_some] <;> rfl) | (simp [*, errW_none, errW_some] <;> rfl), by repeat (first | (with_reducible first | exact HB.out | apply below_alloc | apply pw_below_drewN | apply below_drew1) | exact HB.out)⟩
                · replace c26 := Bool.eq_false_iff.mpr c26
                  subst c26
                  have H1 : (laws_FnDithered.l1 kj20 t310 t311 t325 (([] : List (List Int))) 0) = some r := by rw [if_neg (show ¬ (false = true) by decide)] at H; exact H
                  clear H
                  have H := H1
                  clear H1
                  obtain ⟨y328, hy328⟩ : ∃ y_ : List (List Int), y_ = (([] : List (List Int))) := ⟨_, rfl⟩
                  replace H : (laws_FnDithered.l1 kj20 t310 t311 t325 y328 0) = some r := by first | (rw [hy328]; with_reducible exact H) | (have H2_ := (Option.bind_some _ _).symm.trans H; rw [hy328]; with_reducible exact H2_) | (have H2_ := (Option.bind_some _ _).symm.trans H; with_reducible exact H2_) | with_reducible exact H | (rw [hy328]; exact H) | exact H
                  have Ny328 := Aside0.mk hy328
                  clear hy328
                  have H' := Aside0.mk H
                  clear H
                  go_wp2_with (first | ((with_reducible refine gate_dst (N := 73) rfl ?_); (try (refine gate_guard (by rfl) ?_; dsimp only)); refine Kd.R_lit (Kd.slice 3 (Kd.int .i64)) _ 25 ?hg (N := 73) ?hd (xs := ([] : List (List Int))) (inner := []) (ok := fun _ => True) (okp := fun _ => True) ?hr ?hp (fun _ hk => hk) trivial (Below.refl _ _) (Nat.le_refl _) (by simp) ?_; (case hd => rfl); (case hg => rfl); (case hr => first | (go_simp; done) | (go_simp; rfl)); (case hp => exact (Reps.none _ _)); intro v329 w28 ho29 hb hg_ hnew_; clear hg_ hnew_; (first | rw [← Ny328.out] at ho29 | (simp only [Int.reduceToNat] at ho29; rw [← Ny328.out] at ho29)); have n0_ := Aside0.mk (Kd.Q_elder' (by (with_reducible repeat (first | apply Kd.Q_alloc | apply Kd.Q_drewN | apply Kd.Q_drew)); exact HO_3.out) (Kd.R_base ho29) hb); have n1_ := Aside0.mk (Kd.R_elder' (by (with_reducible repeat (first | apply Kd.R_alloc | apply Kd.R_drewN | apply Kd.R_drew)); exact HO_5.out) (Kd.R_base ho29) hb); have n2_ := Aside0.mk (Kd.R_below (by (with_reducible repeat (first | apply Kd.R_alloc | apply Kd.R_drewN | apply Kd.R_drew)); exact HO_6.out) hb); have n3_ := Aside0.mk (Kd.R_below (by (with_reducible repeat (first | apply Kd.R_alloc | apply Kd.R_drewN | apply Kd.R_drew)); exact HO_8.out) hb); have n4_ := Aside0.mk (Kd.R_lower (Kd.R_new' (Kd.R_new' (Kd.R_new' (Kd.R_new' ho29 (Kd.Q_lt (by (with_reducible repeat (first | apply Kd.Q_alloc | apply Kd.Q_drewN | apply Kd.Q_drew)); exact HO_3.out))) (Kd.R_lt (by (with_reducible repeat (first | apply Kd.R_alloc | apply Kd.R_drewN | apply Kd.R_drew)); exact HO_5.out))) (Kd.R_lt (by (with_reducible repeat (first | apply Kd.R_alloc | apply Kd.R_drewN | apply Kd.R_drew)); exact HO_6.out))) (Kd.R_lt (by (with_reducible repeat (first | apply Kd.R_alloc | apply Kd.R_drewN | apply Kd.R_drew)); exact HO_8.out))) (below_size (by repeat (first | (with_reducible first | exact HB.out | apply below_alloc | apply pw_below_drewN | apply below_drew1) | exact HB.out)))); have n5_ := Aside0.mk (below_step (by repeat (first | (with_reducible first | exact HB.out | apply below_alloc | apply pw_below_drewN | apply below_drew1) | exact HB.out)) hb); clear HO_3; clear HO_5; clear HO_6; clear HO_8; clear HB; have HO_3 := n0_; have HO_5 := n1_; have HO_6 := n2_; have HO_8 := n3_; have HO330 := n4_; have HB := n5_; clear n0_ n1_ n2_ n3_ n4_ n5_; clear hb ho29))
                  go_loopg [9, 10] kj20 (fun kq v9 v10 w' => ∃ (x9_3 : List (List Int)) (x10_3 : Int), v10 = .int .i64 x10_3 ∧ Aside0 (laws_FnDithered.l1 kq t310 t311 t325 x9_3 x10_3 = some r) ∧ Aside0 (kq ≤ kj20) ∧ Aside0 (Kd.R (Kd.slice 3 (Kd.int .i64)) 25 w' w.heap.size (fun k_ => some k_ ≠ (v326 : Value).ownBlock ∧ some k_ ≠ (v9 : Value).ownBlock) (.slice Ao11 t311.length co11) t311) ∧ Aside0 (Kd.R (Kd.int .i64) 3 w' w.heap.size (fun _ => True) v326 t325) ∧ Aside0 (Kd.R (Kd.slice 3 (Kd.int .i64)) 25 w' w.heap.size (fun k_ => some k_ ≠ ((.slice Ao11 t311.length co11) : Value).ownBlock ∧ some k_ ≠ (v326 : Value).ownBlock) v9 x9_3) ∧ Aside0 (Below w.heap.size w w'))
                  case atStart => exact ⟨(y328), (0), (by first | rfl | (simp; done) | (simp [*]; done)), H', ⟨Nat.le_refl _⟩, ⟨by (with_reducible repeat (first | apply Kd.R_alloc | apply Kd.R_drewN | apply Kd.R_drew)); exact Kd.R_mono HO_5.out (fun _ hk => ⟨hk.1.2.2, hk.2⟩)⟩, ⟨by (with_reducible repeat (first | apply Kd.R_alloc | apply Kd.R_drewN | apply Kd.R_drew)); exact Kd.R_mono HO_8.out (fun _ hk => trivial)⟩, ⟨by (with_reducible repeat (first | apply Kd.R_alloc | apply Kd.R_drewN | apply Kd.R_drew)); exact Kd.R_mono HO330.out (fun _ hk => ⟨hk.1.1.2, hk.2⟩)⟩, ⟨by repeat (first | (with_reducible first | exact HB.out | apply below_alloc | apply pw_below_drewN | apply below_drew1) | exact HB.out)⟩⟩
                  case round =>
                    clear H'
                    try clear c1
                    try clear c2
                    try clear p2
                    try clear c3
                    try clear p3
                    try clear q3
                    try clear hx3
                    try clear c4
                    try clear c6
                    try clear p6
                    try clear c8
                    try clear c11
                    try clear c12
                    try clear c13
                    try clear c14
                    try clear c15
                    try clear c16
                    try clear c16b0
                    try clear c17
                    try clear c17b0
                    try clear c18
                    try clear c18b0
                    try clear c19
                    try clear c19b0
                    try clear c23
                    try clear c23b0
                    try clear c23b1
                    try clear c23b2
                    try clear c26
                    try clear c27
                    try clear c27b0
                    try clear c27b1
                    try clear c27b2
                    try clear hx323_0
                    try clear hx324_0
                    try clear p2
                    try clear p3
                    try clear p323
                    try clear p324
                    try clear p6
                    try clear q3
                    try clear q323
                    try clear q324
                    obtain ⟨x9_3, x10_3, rfl, HA, HK3, HO_5, HO_8, HO_9, HB⟩ := hrel
                    cases gk with
                    | zero => exact absurd HA.out (by simp [laws_FnDithered.l1])
                    | succ k3 =>
                      have H := HA.out
                      clear HA
                      simp only [laws_FnDithered.l1] at H
                      by_cases c30 : x10_3 < (t325.length : Int)
                      · rw [if_pos c30] at H
                        have c30b0 : decide (x10_3 < (t325.length : Int)) = true := decide_eq_true c30
                        clear c30
                        obtain ⟨y331, hy331⟩ : ∃ y_ : List Int, y_ = (([] : List Int)) := ⟨_, rfl⟩
                        replace H : (if 0 ≤ x10_3 then (if 0 ≤ (rd t325 x10_3) then (if (rd t325 x10_3) < (t311.length : Int) then (if y331.length + (rd_L2 t311 (rd t325 x10_3)).length < 17592186044416 then (if x9_3.length < 5864062014805 then (laws_FnDithered.l1 k3 t310 t311 t325 (x9_3 ++ [(y331 ++ (rd_L2 t311 (rd t325 x10_3)))]) (wrap64 (x10_3 + 1))) else (none)) else (none)) else (none)) else (none)) else (none)) = some r := by first | (rw [hy331]; with_reducible exact H) | (have H2_ := (Option.bind_some _ _).symm.trans H; rw [hy331]; with_reducible exact H2_) | (have H2_ := (Option.bind_some _ _).symm.trans H; with_reducible exact H2_) | with_reducible exact H | (rw [hy331]; exact H) | exact H
                        have Ny331 := Aside0.mk hy331
                        clear hy331
                        by_cases c31 : 0 ≤ x10_3
                        · rw [if_pos c31] at H
                          have c31b0 : decide (0 ≤ x10_3) = true := decide_eq_true c31
                          clear c31
                          by_cases c32 : 0 ≤ (rd t325 x10_3)
                          · rw [if_pos c32] at H
                            have c32b0 : decide (0 ≤ (rd t325 x10_3)) = true := decide_eq_true c32
                            clear c32
                            by_cases c33 : (rd t325 x10_3) < (t311.length : Int)
                            · rw [if_pos c33] at H
                              have c33b0 : decide ((rd t325 x10_3) < (t311.length : Int)) = true := decide_eq_true c33
                              clear c33
                              by_cases c34 : y331.length + (rd_L2 t311 (rd t325 x10_3)).length < 17592186044416
                              · rw [if_pos c34] at H
                                have LMc34 := Aside0.mk c34
                                clear c34
                                obtain ⟨y336, hy336⟩ : ∃ y_ : List Int, y_ = (y331 ++ (rd_L2 t311 (rd t325 x10_3))) := ⟨_, rfl⟩
                                replace H : (if x9_3.length < 5864062014805 then (laws_FnDithered.l1 k3 t310 t311 t325 (x9_3 ++ [y336]) (wrap64 (x10_3 + 1))) else (none)) = some r := by first | (rw [hy336]; with_reducible exact H) | (have H2_ := (Option.bind_some _ _).symm.trans H; rw [hy336]; with_reducible exact H2_) | (have H2_ := (Option.bind_some _ _).symm.trans H; with_reducible exact H2_) | with_reducible exact H | (rw [hy336]; exact H) | exact H
                                have Ny336 := Aside0.mk hy336
                                clear hy336
                                by_cases c35 : x9_3.length < 5864062014805
                                · rw [if_pos c35] at H
                                  have LMc35 := Aside0.mk c35
                                  clear c35
                                  obtain ⟨y339, hy339⟩ : ∃ y_ : List (List Int), y_ = (x9_3 ++ [y336]) := ⟨_, rfl⟩
                                  replace H : (laws_FnDithered.l1 k3 t310 t311 t325 y339 (wrap64 (x10_3 + 1))) = some r := by first | (rw [hy339]; with_reducible exact H) | (have H2_ := (Option.bind_some _ _).symm.trans H; rw [hy339]; with_reducible exact H2_) | (have H2_ := (Option.bind_some _ _).symm.trans H; with_reducible exact H2_) | with_reducible exact H | (rw [hy339]; exact H) | exact H
                                  have Ny339 := Aside0.mk hy339
                                  clear hy339
                                  have H' := Aside0.mk H
                                  clear H
                                  obtain ⟨Ao36, co36, eo36⟩ := Kd.R_slice HO_8.out
                                  subst eo36
                                  go_wp2_with (first | ((with_reducible refine gate_dst (N := 81) rfl ?_); (try (refine gate_guard (by rfl) ?_; dsimp only)); refine Kd.R_lit (Kd.int .i64) _ 3 ?hg (N := 81) ?hd (xs := ([] : List Int)) (inner := []) (ok := fun _ => True) (okp := fun _ => True) ?hr ?hp (fun _ hk => hk) trivial (Below.refl _ _) (Nat.le_refl _) (by simp) ?_; (case hd => rfl); (case hg => rfl); (case hr => first | (go_simp; done) | (go_simp; rfl)); (case hp => exact (Reps.none _ _)); intro v332 w37 ho38 hb hg_ hnew_; clear hg_ hnew_; (first | rw [← Ny331.out] at ho38 | (simp only [Int.reduceToNat] at ho38; rw [← Ny331.out] at ho38)); have n0_ := Aside0.mk (Kd.R_elder' (by (with_reducible repeat (first | apply Kd.R_alloc | apply Kd.R_drewN | apply Kd.R_drew)); exact HO_5.out) (Kd.R_base ho38) hb); have n1_ := Aside0.mk (Kd.R_elder' (by (with_reducible repeat (first | apply Kd.R_alloc | apply Kd.R_drewN | apply Kd.R_drew)); exact HO_8.out) (Kd.R_base ho38) hb); have n2_ := Aside0.mk (Kd.R_elder' (by (with_reducible repeat (first | apply Kd.R_alloc | apply Kd.R_drewN | apply Kd.R_drew)); exact HO_9.out) (Kd.R_base ho38) hb); have n3_ := Aside0.mk (Kd.R_lower (Kd.R_new' ho38 (Kd.R_lt (by (with_reducible repeat (first | apply Kd.R_alloc | apply Kd.R_drewN | apply Kd.R_drew)); exact HO_8.out))) (below_size (by repeat (first | (with_reducible first | exact HB.out | apply below_alloc | apply pw_below_drewN | apply below_drew1) | exact HB.out)))); have n4_ := Aside0.mk (below_step (by repeat (first | (with_reducible first | exact HB.out | apply below_alloc | apply pw_below_drewN | apply below_drew1) | exact HB.out)) hb); clear HO_5; clear HO_8; clear HO_9; clear HB; have HO_5 := n0_; have HO_8 := n1_; have HO_9 := n2_; have HO333 := n3_; have HB := n4_; clear n0_ n1_ n2_ n3_ n4_; clear hb ho38; have p334 : 0 ≤ (x10_3 : Int) := of_decide_eq_true (by first | (with_reducible assumption) | assumption); have q334 : x10_3 < (t325.length : Int) := of_decide_eq_true (by first | (with_reducible assumption) | assumption); obtain ⟨ad334, e334, hx334_0⟩ := Kd.at_int (Kd.R_reads' HO_8.out).2.2 x10_3 p334 q334; cases e334; replace p334 := eq_true p334; replace q334 := eq_true q334; have p335 : 0 ≤ ((rd t325 x10_3) : Int) := of_decide_eq_true (by first | (with_reducible assumption) | assumption); have q335 : (rd t325 x10_3) < (t311.length : Int) := of_decide_eq_true (by first | (with_reducible assumption) | assumption); obtain ⟨ad335, A335_0, c335_0, e335, hx335_0, hl335_0, hi335_0⟩ := at_L2 (Kd.R_reads' HO_5.out).2.2 (rd t325 x10_3) p335 q335; cases e335; obtain ⟨ce335, hce335, hMe335, hcc335⟩ := Kd.R_get HO_5.out [] (rd t325 x10_3) p335 (by first | exact q335 | exact of_decide_eq_true (by first | (with_reducible assumption) | assumption) | (have e_ := (Kd.R_reads' HO_5.out).1; omega)); obtain ⟨ve335_0, rfl, ge335_0⟩ := hMe335; have hv335_0 := hcc335 0 _ rfl; rw [Nat.add_zero, show ((Kd.slice 3 (Kd.int .i64))).sz = 1 from rfl, Nat.mul_one] at hv335_0; replace hv335_0 := Option.some.inj (hv335_0.symm.trans hx335_0); rw [hv335_0] at ge335_0; have HL335_0 := Aside0.mk (show Kd.R (Kd.int .i64) 3 _ _ _ _ (rd_L2 t311 (rd t325 x10_3)) from ge335_0); clear hv335_0 ge335_0; clear hcc335 hce335; have HR335_0 := Aside0.mk hi335_0; have HC335_0 := Aside0.mk hl335_0; clear hi335_0 hl335_0; replace p335 := eq_true p335; replace q335 := eq_true q335) | ((with_reducible refine gate_builtin (b := .append) (xs := #[.tmp 81, .tmp 88]) rfl ?_); (try (refine gate_guard (by rfl) ?_; dsimp only)); at_builtin; refine Kd.R_append_rows (Kd.int .i64) (w0 := w) w.heap.size rfl (.tmp 81) (.tmp 88) 25 3 (.int .i64 0) 8 rfl Try.underlying25 info3 rfl (by decide) (by omega) v332 y331 (rd_L2 t311 (rd t325 x10_3)) _ _ _ (fun k_ => some k_ ≠ (.slice (some ad334) t325.length co36 : Value).ownBlock) (fun _ => False) rfl rfl ?aO ?aR (fun _ _ h => h) (fun _ h => h.elim) ?aF ?aB ?aS ?aL ?_; (case aR => repeat (first | exact (by repeat (first | (with_reducible exact HR335_0.out) | (with_reducible refine Kd.C_alloc ?_ _) | (with_reducible refine Kd.C_drewN ?_ _) | (with_reducible refine Kd.C_drew ?_) | exact HR335_0.out)) | (with_reducible refine Kd.C_alloc ?_ _) | (with_reducible refine Kd.C_drewN ?_ _) | (with_reducible refine Kd.C_drew ?_))); (case aB => exact (by repeat (first | (with_reducible first | exact HB.out | apply below_alloc | apply pw_below_drewN | apply below_drew1) | exact HB.out))); (case aF => exact (fun k_ hk => Kd.fresh' (Kd.R_lt (by (with_reducible repeat (first | apply Kd.R_alloc | apply Kd.R_drewN | apply Kd.R_drew)); exact HO_8.out)) k_ hk)); (case aO => exact (by (with_reducible repeat (first | apply Kd.R_alloc | apply Kd.R_drewN | apply Kd.R_drew)); exact Kd.R_mono HO333.out (fun _ hk => hk.2))); (case aS => exact (below_size (by repeat (first | (with_reducible first | exact HB.out | apply below_alloc | apply pw_below_drewN | apply below_drew1) | exact HB.out)))); (case aL => have := LMc34.out; omega); intro v337 w39 ho hb hg hat; rw [← Ny336.out] at ho; have n0_ := Aside0.mk (Kd.R_after (ok := (fun k_ => some k_ ≠ (.slice (some ad334) t325.length co36 : Value).ownBlock ∧ some k_ ≠ (u9 : Value).ownBlock)) (by (with_reducible repeat (first | apply Kd.R_alloc | apply Kd.R_drewN | apply Kd.R_drew)); exact HO_5.out) hg hat); have n1_ := Aside0.mk (Kd.R_after (ok := (fun _ => True)) (by (with_reducible repeat (first | apply Kd.R_alloc | apply Kd.R_drewN | apply Kd.R_drew)); exact HO_8.out) hg hat); have n2_ := Aside0.mk (Kd.R_after (ok := (fun k_ => some k_ ≠ (.slice (some ad335) t311.length co11 : Value).ownBlock ∧ some k_ ≠ (.slice (some ad334) t325.length co36 : Value).ownBlock)) (by (with_reducible repeat (first | apply Kd.R_alloc | apply Kd.R_drewN | apply Kd.R_drew)); exact HO_9.out) hg hat); have n3_ := Aside0.mk (Kd.R_after (ok := (fun k_ => some k_ ≠ (.slice (some ad335) t311.length co11 : Value).ownBlock ∧ some k_ ≠ (.slice (some ad334) t325.length co36 : Value).ownBlock ∧ some k_ ≠ (u9 : Value).ownBlock)) (by (with_reducible repeat (first | apply Kd.R_alloc | apply Kd.R_drewN | apply Kd.R_drew)); exact Kd.R_mono HL335_0.out (fun _ hk => ⟨⟨hk.2, ⟨hk.1.1.1, hk.1.1.2⟩⟩, hk.1.2⟩)) hg hat); have n4_ := Aside0.mk (hb); have n5_ := Aside0.mk (ho); clear HO_5; clear HO_8; clear HO_9; clear HL335_0; clear HB; clear HO333; have HO_5 := n0_; have HO_8 := n1_; have HO_9 := n2_; have HL335_0 := n3_; have HB := n4_; have HO338 := n5_; clear n0_ n1_ n2_ n3_ n4_ n5_; clear ho hb hg hat; obtain ⟨Ao41, co41, eo41⟩ := Kd.R_slice HO338.out; subst eo41) | ((with_reducible refine gate_builtin (b := .append) (xs := #[.tmp 80, .tmp 90]) rfl ?_); (try (refine gate_guard (by rfl) ?_; dsimp only)); at_builtin; refine Kd.R_append (Kd.slice 3 (Kd.int .i64)) (w0 := w) w.heap.size rfl (.tmp 80) (.tmp 90) 24 25 (.slice none 0 0) 24 rfl Try.underlying24 info25 rfl (by decide) (by omega) u9 x9_3 y336 [.slice Ao41 y336.length co41] (fun k_ => some k_ ≠ (.slice (some ad335) t311.length co11 : Value).ownBlock ∧ some k_ ≠ (.slice (some ad334) t325.length co36 : Value).ownBlock) (fun k_ => ((fun k_ => some k_ ≠ (.slice (some ad335) t311.length co11 : Value).ownBlock ∧ some k_ ≠ (.slice (some ad334) t325.length co36 : Value).ownBlock)) k_ ∧ some k_ ≠ (u9 : Value).ownBlock) rfl rfl ?aP (fun _ hk => hk) ?aF ?aO ?aB ?aS ?aL ?_; (case aP => exact Kd.M_row (Kd.R_mono (Kd.R_apart' (Kd.R_apart' (HO338.out) (Kd.R_typed HO_5.out) (by decide)) (Kd.R_typed HO_9.out) (by decide)) (fun k_ hk => ⟨⟨hk.1.2, hk.1.1⟩, hk.2⟩))); (case aB => exact (by repeat (first | (with_reducible first | exact HB.out | apply below_alloc | apply pw_below_drewN | apply below_drew1) | exact HB.out))); (case aF => exact (fun k_ hk => ⟨Kd.fresh' (Kd.R_lt (by (with_reducible repeat (first | apply Kd.R_alloc | apply Kd.R_drewN | apply Kd.R_drew)); exact HO_5.out)) k_ hk, Kd.fresh' (Kd.R_lt (by (with_reducible repeat (first | apply Kd.R_alloc | apply Kd.R_drewN | apply Kd.R_drew)); exact HO_8.out)) k_ hk⟩)); (case aO => exact (by (with_reducible repeat (first | apply Kd.R_alloc | apply Kd.R_drewN | apply Kd.R_drew)); exact Kd.R_mono HO_9.out (fun _ hk => ⟨hk.1.1, hk.1.2⟩))); (case aS => exact (below_size (by repeat (first | (with_reducible first | exact HB.out | apply below_alloc | apply pw_below_drewN | apply below_drew1) | exact HB.out)))); (case aL => have := LMc35.out; omega); intro v340 w40 ho hb hg hat; rw [← Ny339.out] at ho; have n0_ := Aside0.mk (Kd.R_after (ok := (fun k_ => some k_ ≠ (.slice (some ad334) t325.length co36 : Value).ownBlock ∧ some k_ ≠ (.slice Ao41 y336.length co41 : Value).ownBlock)) (by (with_reducible repeat (first | apply Kd.R_alloc | apply Kd.R_drewN | apply Kd.R_drew)); exact Kd.R_mono HO_5.out (fun _ hk => ⟨⟨hk.1.1, hk.2⟩, hk.1.2⟩)) hg hat); have n1_ := Aside0.mk (Kd.R_over' (by (with_reducible repeat (first | apply Kd.R_alloc | apply Kd.R_drewN | apply Kd.R_drew)); exact HO_8.out) (Kd.R_typed (by (with_reducible repeat (first | apply Kd.R_alloc | apply Kd.R_drewN | apply Kd.R_drew)); exact HO_9.out)) (by decide) hg); have n2_ := Aside0.mk (Kd.R_after (ok := (fun k_ => some k_ ≠ (.slice (some ad335) t311.length co11 : Value).ownBlock ∧ some k_ ≠ (.slice (some ad334) t325.length co36 : Value).ownBlock ∧ some k_ ≠ (.slice Ao41 y336.length co41 : Value).ownBlock)) (by (with_reducible repeat (first | apply Kd.R_alloc | apply Kd.R_drewN | apply Kd.R_drew)); exact Kd.R_mono HL335_0.out (fun _ hk => ⟨⟨hk.1.1, ⟨hk.1.2.1, hk.2⟩⟩, hk.1.2.2⟩)) hg hat); have n3_ := Aside0.mk (hb); have n4_ := Aside0.mk (ho); clear HO_5; clear HO_8; clear HL335_0; clear HB; clear HO_9; clear HO338; have HO_5 := n0_; have HO_8 := n1_; have HL335_0 := n2_; have HB := n3_; have HO341 := n4_; clear n0_ n1_ n2_ n3_ n4_; clear ho hb hg hat))
                                  go_roundg k3
                                  case measure => have := HK1.out; have := HJ20.out; have := HK3.out; omega
                                  case rel => exact ⟨(y339), (wrap64 (x10_3 + 1)), (by first | rfl | (simp; done) | (simp [*]; done)), H', ⟨by have := HK1.out; have := HJ20.out; have := HK3.out; omega⟩, ⟨by (with_reducible repeat (first | apply Kd.R_alloc | apply Kd.R_drewN | apply Kd.R_drew)); exact Kd.R_mono HO_5.out (fun _ hk => ⟨hk.1.1, hk.2⟩)⟩, ⟨by (with_reducible repeat (first | apply Kd.R_alloc | apply Kd.R_drewN | apply Kd.R_drew)); exact Kd.R_mono HO_8.out (fun _ hk => trivial)⟩, ⟨by (with_reducible repeat (first | apply Kd.R_alloc | apply Kd.R_drewN | apply Kd.R_drew)); exact HO341.out⟩, ⟨by repeat (first | (with_reducible first | exact HB.out | apply below_alloc | apply pw_below_drewN | apply below_drew1) | exact HB.out)⟩⟩
                                · rw [if_neg c35] at H
                                  exact absurd H (by simp)
                              · rw [if_neg c34] at H
                                exact absurd H (by simp)
                            · rw [if_neg c33] at H
                              exact absurd H (by simp)
                          · rw [if_neg c32] at H
                            exact absurd H (by simp)
                        · rw [if_neg c31] at H
                          exact absurd H (by simp)
                      · rw [if_neg c30] at H
                        have c30b0 : decide (x10_3 < (t325.length : Int)) = false := decide_eq_false c30
                        clear c30
                        replace H := Option.bind_eq_some_iff.mp H
                        obtain ⟨t342, A420, H⟩ := H
                        replace H : ((impl_MapTo.f k3 x9_3 t311).bind fun t345 => ((laws_sameInts.f k3 t342 t345).bind fun t348 => (some t348))) = some r := H
                        have A42 := Aside0.mk A420
                        clear A420
                        replace H := Option.bind_eq_some_iff.mp H
                        obtain ⟨t345, A430, H⟩ := H
                        replace H : ((laws_sameInts.f k3 t342 t345).bind fun t348 => (some t348)) = some r := H
                        have A43 := Aside0.mk A430
                        clear A430
                        replace H := Option.bind_eq_some_iff.mp H
                        obtain ⟨t348, A440, H⟩ := H
                        replace H : (some t348) = some r := H
                        have A44 := Aside0.mk A440
                        clear A440
                        obtain rfl := Option.some.inj H
                        obtain ⟨Ao45, co45, eo45⟩ := Kd.R_slice HO_8.out
                        subst eo45
                        obtain ⟨Ao46, co46, eo46⟩ := Kd.R_slice HO_9.out
                        subst eo46
                        go_wp2_with (first | ((with_reducible refine gate_callee (f := 12) rfl ?_); refine goesL_ (some 95) rfl rfl Try.func12 (by kernel_rfl) rfl #[.slice Ao46 x9_3.length co46, .int .i64 t310, .slice Ao11 t311.length co11] rfl (by (try simp only [List.map_toArray, List.map_cons, List.map_nil]); first | done | rfl | (simp only [List.length_drop, List.length_take]; rfl)) ?_; (with_reducible refine (impl_Dither.calls _ _ x9_3 t310 _ _ t311 t342 _ ?side1 ?side2 ?side3 ?side4 A42.out).mono ?_); (case side1 => repeat (first | exact (Kd.R_reads' HO_9.out).2.2 | (with_reducible refine Kd.C_alloc ?_ _) | (with_reducible refine Kd.C_drewN ?_ _) | (with_reducible refine Kd.C_drew ?_))); (case side2 => exact (Kd.R_reads' HO_9.out).2.1); (case side3 => repeat (first | exact (Kd.R_reads' HO_5.out).2.2 | (with_reducible refine Kd.C_alloc ?_ _) | (with_reducible refine Kd.C_drewN ?_ _) | (with_reducible refine Kd.C_drew ?_))); (case side4 => exact (Kd.R_reads' HO_5.out).2.1); rintro e w47 ⟨v343, rfl, ho0, hb⟩; refine ⟨_, rfl, ?_⟩; have n0_ := Aside0.mk (Kd.R_elder' (by (with_reducible repeat (first | apply Kd.R_alloc | apply Kd.R_drewN | apply Kd.R_drew)); exact HO_5.out) (Kd.R_base ho0) hb); have n1_ := Aside0.mk (Kd.R_elder' (by (with_reducible repeat (first | apply Kd.R_alloc | apply Kd.R_drewN | apply Kd.R_drew)); exact HO_8.out) (Kd.R_base ho0) hb); have n2_ := Aside0.mk (Kd.R_elder' (by (with_reducible repeat (first | apply Kd.R_alloc | apply Kd.R_drewN | apply Kd.R_drew)); exact HO_9.out) (Kd.R_base ho0) hb); have n3_ := Aside0.mk (Kd.R_lower (Kd.R_new' ho0 (Kd.R_lt (by (with_reducible repeat (first | apply Kd.R_alloc | apply Kd.R_drewN | apply Kd.R_drew)); exact HO_8.out))) (below_size (by repeat (first | (with_reducible first | exact HB.out | apply below_alloc | apply pw_below_drewN | apply below_drew1) | exact HB.out)))); have n4_ := Aside0.mk (below_step (by repeat (first | (with_reducible first | exact HB.out | apply below_alloc | apply pw_below_drewN | apply below_drew1) | exact HB.out)) hb); clear HO_5; clear HO_8; clear HO_9; clear HB; have HO_5 := n0_; have HO_8 := n1_; have HO_9 := n2_; have HO344 := n3_; have HB := n4_; clear n0_ n1_ n2_ n3_ n4_; (try clear hb); (try clear hb2); (try clear hk); (try clear hi); (try clear ho0)) | ((with_reducible refine gate_callee (f := 15) rfl ?_); refine goesL_ (some 98) rfl rfl Try.func15 (by kernel_rfl) rfl #[.slice Ao46 x9_3.length co46, .slice Ao11 t311.length co11] rfl (by (try simp only [List.map_toArray, List.map_cons, List.map_nil]); first | done | rfl | (simp only [List.length_drop, List.length_take]; rfl)) ?_; (with_reducible refine (impl_MapTo.calls k3 _ _ x9_3 _ _ t311 t345 _ ?side1 ?side2 ?side3 ?side4 A43.out).mono ?_); (case side1 => repeat (first | exact (Kd.R_reads' HO_9.out).2.2 | (with_reducible refine Kd.C_alloc ?_ _) | (with_reducible refine Kd.C_drewN ?_ _) | (with_reducible refine Kd.C_drew ?_))); (case side2 => exact (Kd.R_reads' HO_9.out).2.1); (case side3 => repeat (first | exact (Kd.R_reads' HO_5.out).2.2 | (with_reducible refine Kd.C_alloc ?_ _) | (with_reducible refine Kd.C_drewN ?_ _) | (with_reducible refine Kd.C_drew ?_))); (case side4 => exact (Kd.R_reads' HO_5.out).2.1); rintro e w48 ⟨v346, rfl, ho0, hb⟩; refine ⟨_, rfl, ?_⟩; have n0_ := Aside0.mk (Kd.R_elder' (by (with_reducible repeat (first | apply Kd.R_alloc | apply Kd.R_drewN | apply Kd.R_drew)); exact HO_5.out) (Kd.R_base ho0) hb); have n1_ := Aside0.mk (Kd.R_elder' (by (with_reducible repeat (first | apply Kd.R_alloc | apply Kd.R_drewN | apply Kd.R_drew)); exact HO_8.out) (Kd.R_base ho0) hb); have n2_ := Aside0.mk (Kd.R_elder' (by (with_reducible repeat (first | apply Kd.R_alloc | apply Kd.R_drewN | apply Kd.R_drew)); exact HO_9.out) (Kd.R_base ho0) hb); have n3_ := Aside0.mk (Kd.R_elder' (by (with_reducible repeat (first | apply Kd.R_alloc | apply Kd.R_drewN | apply Kd.R_drew)); exact HO344.out) (Kd.R_base ho0) hb); have n4_ := Aside0.mk (Kd.R_lower (Kd.R_new' (Kd.R_new' ho0 (Kd.R_lt (by (with_reducible repeat (first | apply Kd.R_alloc | apply Kd.R_drewN | apply Kd.R_drew)); exact HO_8.out))) (Kd.R_lt (by (with_reducible repeat (first | apply Kd.R_alloc | apply Kd.R_drewN | apply Kd.R_drew)); exact HO344.out))) (below_size (by repeat (first | (with_reducible first | exact HB.out | apply below_alloc | apply pw_below_drewN | apply below_drew1) | exact HB.out)))); have n5_ := Aside0.mk (below_step (by repeat (first | (with_reducible first | exact HB.out | apply below_alloc | apply pw_below_drewN | apply below_drew1) | exact HB.out)) hb); clear HO_5; clear HO_8; clear HO_9; clear HO344; clear HB; have HO_5 := n0_; have HO_8 := n1_; have HO_9 := n2_; have HO344 := n3_; have HO347 := n4_; have HB := n5_; clear n0_ n1_ n2_ n3_ n4_ n5_; (try clear hb); (try clear hb2); (try clear hk); (try clear hi); (try clear ho0); obtain ⟨Ao49, co49, eo49⟩ := Kd.R_slice HO344.out; subst eo49; obtain ⟨Ao50, co50, eo50⟩ := Kd.R_slice HO347.out; subst eo50) | ((with_reducible refine gate_callee (f := 13) rfl ?_); refine goesL_ (some 99) rfl rfl Try.func13 (by kernel_rfl) rfl #[.slice Ao49 t342.length co49, .slice Ao50 t345.length co50] rfl (by (try simp only [List.map_toArray, List.map_cons, List.map_nil]); first | done | rfl | (simp only [List.length_drop, List.length_take]; rfl)) ?_; (with_reducible refine (laws_sameInts.calls k3 _ _ t342 _ _ t345 t348 _ ?side1 ?side2 ?side3 ?side4 A44.out).mono ?_); (case side1 => repeat (first | exact (Kd.R_reads' HO344.out).2.2 | (with_reducible refine Kd.C_alloc ?_ _) | (with_reducible refine Kd.C_drewN ?_ _) | (with_reducible refine Kd.C_drew ?_))); (case side2 => exact (Kd.R_reads' HO344.out).2.1); (case side3 => repeat (first | exact (Kd.R_reads' HO347.out).2.2 | (with_reducible refine Kd.C_alloc ?_ _) | (with_reducible refine Kd.C_drewN ?_ _) | (with_reducible refine Kd.C_drew ?_))); (case side4 => exact (Kd.R_reads' HO347.out).2.1); rintro e w' ⟨rfl, ⟨nd, rfl⟩⟩; refine ⟨_, rfl, ?_⟩))
                        go_ret
                        exact ⟨by first | rfl | (simp [errW_none, errW_some] <;> rfl) | (simp [*, errW_none, errW_some] <;> rfl), by repeat (first | (with_reducible first | exact HB.out | apply below_alloc | apply pw_below_drewN | apply below_drew1) | exact HB.out)⟩
    · replace c8 := Bool.eq_false_iff.mpr c8
      subst c8
      have H1 : (some false) = some r := by rw [if_neg (show ¬ (false = true) by decide)] at H; exact H
      clear H
      have H := H1
      clear H1
      obtain rfl := Option.some.inj H
      go_enter Try.func4, Try.ntmps4
      go_wp2_with (first | ((with_reducible refine gate_callee (f := 6) rfl ?_); refine goesL_ (some 12) rfl rfl Try.func6 (by kernel_rfl) rfl #[.slice A0 l0.length c0] rfl (by (try simp only [List.map_toArray, List.map_cons, List.map_nil]); first | done | rfl | (simp only [List.length_drop, List.length_take]; rfl)) ?_; (with_reducible refine (laws_big.calls _ _ l0 false _ ?side1 ?side2 A2.out).mono ?_); (case side1 => repeat (first | exact HR0.out | (with_reducible refine Kd.C_alloc ?_ _) | (with_reducible refine Kd.C_drewN ?_ _) | (with_reducible refine Kd.C_drew ?_))); (case side2 => exact HC0.out); rintro e w' ⟨rfl, ⟨nd, rfl⟩⟩; refine ⟨_, rfl, ?_⟩) | ((with_reducible refine gate_callee (f := 11) rfl ?_); refine goesL_ (some 15) rfl rfl Try.func11 (by kernel_rfl) rfl #[.slice A0 l0.length c0] rfl (by (try simp only [List.map_toArray, List.map_cons, List.map_nil]); first | done | rfl | (simp only [List.length_drop, List.length_take]; rfl)) ?_; (with_reducible refine (spec_DrawDither.calls k _ _ l0 t309 t310 t311 _ ?side1 ?side2 A4.out).mono ?_); (case side1 => repeat (first | exact HR0.out | (with_reducible refine Kd.C_alloc ?_ _) | (with_reducible refine Kd.C_drewN ?_ _) | (with_reducible refine Kd.C_drew ?_))); (case side2 => exact HC0.out); rintro e w51 ⟨v312, v314, rfl, ho0, ho1, hb⟩; refine ⟨_, rfl, ?_⟩; have n0_ := Aside0.mk (Kd.Q_lower ho0 (below_size (by repeat (first | (with_reducible first | exact HB.out | apply below_alloc | apply pw_below_drewN | apply below_drew1) | exact HB.out)))); have n1_ := Aside0.mk (Kd.R_lower ho1 (below_size (by repeat (first | (with_reducible first | exact HB.out | apply below_alloc | apply pw_below_drewN | apply below_drew1) | exact HB.out)))); have n2_ := Aside0.mk (below_step (by repeat (first | (with_reducible first | exact HB.out | apply below_alloc | apply pw_below_drewN | apply below_drew1) | exact HB.out)) hb); clear HB; have HO313 := n0_; have HO315 := n1_; have HB := n2_; clear n0_ n1_ n2_; (try clear hb); (try clear hb2); (try clear hk); (try clear hi); (try clear ho0); (try clear ho1); obtain ⟨Ao52, co52, eo52, _⟩ := Kd.Q_slice HO313.out; subst eo52; obtain ⟨Ao53, co53, eo53⟩ := Kd.R_slice HO315.out; subst eo53) | ((with_reducible refine gate_callee (f := 12) rfl ?_); refine goesL_ (some 22) rfl rfl Try.func12 (by kernel_rfl) rfl #[.slice Ao52 t309.length co52, .int .i64 t310, .slice Ao53 t311.length co53] rfl (by (try simp only [List.map_toArray, List.map_cons, List.map_nil]); first | done | rfl | (simp only [List.length_drop, List.length_take]; rfl)) ?_; (with_reducible refine (impl_Dither.calls _ _ t309 t310 _ _ t311 t316 _ ?side1 ?side2 ?side3 ?side4 A5.out).mono ?_); (case side1 => repeat (first | exact (Kd.Q_reads' HO313.out).2.2 | (with_reducible refine Kd.C_alloc ?_ _) | (with_reducible refine Kd.C_drewN ?_ _) | (with_reducible refine Kd.C_drew ?_))); (case side2 => exact (Kd.Q_reads' HO313.out).2.1); (case side3 => repeat (first | exact (Kd.R_reads' HO315.out).2.2 | (with_reducible refine Kd.C_alloc ?_ _) | (with_reducible refine Kd.C_drewN ?_ _) | (with_reducible refine Kd.C_drew ?_))); (case side4 => exact (Kd.R_reads' HO315.out).2.1); rintro e w54 ⟨v317, rfl, ho0, hb⟩; refine ⟨_, rfl, ?_⟩; have n0_ := Aside0.mk (Kd.Q_elder' (by (with_reducible repeat (first | apply Kd.Q_alloc | apply Kd.Q_drewN | apply Kd.Q_drew)); exact HO313.out) (Kd.R_base ho0) hb); have n1_ := Aside0.mk (Kd.R_elder' (by (with_reducible repeat (first | apply Kd.R_alloc | apply Kd.R_drewN | apply Kd.R_drew)); exact HO315.out) (Kd.R_base ho0) hb); have n2_ := Aside0.mk (Kd.R_lower ho0 (below_size (by repeat (first | (with_reducible first | exact HB.out | apply below_alloc | apply pw_below_drewN | apply below_drew1) | exact HB.out)))); have n3_ := Aside0.mk (below_step (by repeat (first | (with_reducible first | exact HB.out | apply below_alloc | apply pw_below_drewN | apply below_drew1) | exact HB.out)) hb); clear HO313; clear HO315; clear HB; have HO313 := n0_; have HO315 := n1_; have HO318 := n2_; have HB := n3_; clear n0_ n1_ n2_ n3_; (try clear hb); (try clear hb2); (try clear hk); (try clear hi); (try clear ho0)) | ((with_reducible refine gate_callee (f := 14) rfl ?_); refine goesL_ (some 27) rfl rfl Try.func14 (by kernel_rfl) rfl #[.slice Ao52 t309.length co52, .int .i64 t310, .slice Ao53 t311.length co53] rfl (by (try simp only [List.map_toArray, List.map_cons, List.map_nil]); first | done | rfl | (simp only [List.length_drop, List.length_take]; rfl)) ?_; (with_reducible refine (spec_Dither.calls _ _ t309 t310 _ _ t311 t319 _ ?side1 ?side2 ?side3 ?side4 A6.out).mono ?_); (case side1 => repeat (first | exact (Kd.Q_reads' HO313.out).2.2 | (with_reducible refine Kd.C_alloc ?_ _) | (with_reducible refine Kd.C_drewN ?_ _) | (with_reducible refine Kd.C_drew ?_))); (case side2 => exact (Kd.Q_reads' HO313.out).2.1); (case side3 => repeat (first | exact (Kd.R_reads' HO315.out).2.2 | (with_reducible refine Kd.C_alloc ?_ _) | (with_reducible refine Kd.C_drewN ?_ _) | (with_reducible refine Kd.C_drew ?_))); (case side4 => exact (Kd.R_reads' HO315.out).2.1); rintro e w55 ⟨v320, rfl, ho0, hb⟩; refine ⟨_, rfl, ?_⟩; have n0_ := Aside0.mk (Kd.Q_elder' (by (with_reducible repeat (first | apply Kd.Q_alloc | apply Kd.Q_drewN | apply Kd.Q_drew)); exact HO313.out) (Kd.R_base ho0) hb); have n1_ := Aside0.mk (Kd.R_elder' (by (with_reducible repeat (first | apply Kd.R_alloc | apply Kd.R_drewN | apply Kd.R_drew)); exact HO315.out) (Kd.R_base ho0) hb); have n2_ := Aside0.mk (Kd.R_elder' (by (with_reducible repeat (first | apply Kd.R_alloc | apply Kd.R_drewN | apply Kd.R_drew)); exact HO318.out) (Kd.R_base ho0) hb); have n3_ := Aside0.mk (Kd.R_lower (Kd.R_new' ho0 (Kd.R_lt (by (with_reducible repeat (first | apply Kd.R_alloc | apply Kd.R_drewN | apply Kd.R_drew)); exact HO318.out))) (below_size (by repeat (first | (with_reducible first | exact HB.out | apply below_alloc | apply pw_below_drewN | apply below_drew1) | exact HB.out)))); have n4_ := Aside0.mk (below_step (by repeat (first | (with_reducible first | exact HB.out | apply below_alloc | apply pw_below_drewN | apply below_drew1) | exact HB.out)) hb); clear HO313; clear HO315; clear HO318; clear HB; have HO313 := n0_; have HO315 := n1_; have HO318 := n2_; have HO321 := n3_; have HB := n4_; clear n0_ n1_ n2_ n3_ n4_; (try clear hb); (try clear hb2); (try clear hk); (try clear hi); (try clear ho0); obtain ⟨Ao56, co56, eo56⟩ := Kd.R_slice HO318.out; subst eo56; obtain ⟨Ao57, co57, eo57⟩ := Kd.R_slice HO321.out; subst eo57) | ((with_reducible refine gate_callee (f := 13) rfl ?_); refine goesL_ (some 28) rfl rfl Try.func13 (by kernel_rfl) rfl #[.slice Ao56 t316.length co56, .slice Ao57 t319.length co57] rfl (by (try simp only [List.map_toArray, List.map_cons, List.map_nil]); first | done | rfl | (simp only [List.length_drop, List.length_take]; rfl)) ?_; (with_reducible refine (laws_sameInts.calls k _ _ t316 _ _ t319 false _ ?side1 ?side2 ?side3 ?side4 A7.out).mono ?_); (case side1 => repeat (first | exact (Kd.R_reads' HO318.out).2.2 | (with_reducible refine Kd.C_alloc ?_ _) | (with_reducible refine Kd.C_drewN ?_ _) | (with_reducible refine Kd.C_drew ?_))); (case side2 => exact (Kd.R_reads' HO318.out).2.1); (case side3 => repeat (first | exact (Kd.R_reads' HO321.out).2.2 | (with_reducible refine Kd.C_alloc ?_ _) | (with_reducible refine Kd.C_drewN ?_ _) | (with_reducible refine Kd.C_drew ?_))); (case side4 => exact (Kd.R_reads' HO321.out).2.1); rintro e w' ⟨rfl, ⟨nd, rfl⟩⟩; refine ⟨_, rfl, ?_⟩))
      go_ret
      exact ⟨by first | rfl | (simp [errW_none, errW_some] <;> rfl) | (simp [*, errW_none, errW_some] <;> rfl), by repeat (first | (with_reducible first | exact HB.out | apply below_alloc | apply pw_below_drewN | apply below_drew1) | exact HB.out)⟩
/-- THE ONE PURE STATEMENT of laws_FnDithered: yours. -/
def laws_FnDithered.Pure : Prop := ∀ (l0 : List Int), l0.length ≤ maxLen → l0.length * 1 ≤ 140737488351232 → (∀ x ∈ l0, (Lit.int .u8 x).wf = true) → ∃ k, laws_FnDithered.f k l0 = some true
theorem laws_FnDithered.walk (P : laws_FnDithered.Pure) (a0 : Option Addr) (len0 cap0 : Nat) (z0 : List Int) (w : World) (w0 : (a0 = none ∧ len0 = 0 ∧ cap0 = 0 ∧ z0 = []) ∨ ∃ x, a0 = some x ∧ len0 ≤ cap0 ∧ cap0 ≤ maxLen ∧ z0.length = cap0 ∧ (∀ i, i < z0.length → w.cell? (x.add i) = some (.int .u8 (z0.getD i 0))) ∧ ∀ n ∈ z0, (Lit.int .u8 n).wf = true) (y0 : len0 * 1 ≤ 140737488351232) :
    Calls Try.prog 4 #[.slice a0 len0 cap0] w fun e w' => e = .returned (.bool true) ∧ Below w.heap.size w w' := by
  obtain ⟨l0, rfl, hr0, hm0, hw0, hc0⟩ := ReadsInt.ofRowC w0
  obtain ⟨k, h⟩ := P l0 hm0 y0 hw0
  refine (laws_FnDithered.calls k _ _ l0 true w (Kd.C_of_reads (d := (0 : Int)) (h1 := fun _ => rfl) hr0) hc0 h).mono ?_
  rintro e w' ⟨rfl, hd⟩
  exact ⟨rfl, hd⟩
end Go.Proofs.Ytopebplddfhaeaa.G

namespace Go.Proofs.Ytopebplddfhaeaa.G
open Go.RowKit Go.Proofs.YtopebplddfhaeaaW.PrintWords Go.Proofs.YtopebplddfhaeaaW.PrintLast Go.Proofs.YtopebplddfhaeaaW.PrintMore
attribute [local go_sem] max2_int min2_int max_two min_two max_three min_three max_four min_four   -- for this text's walks alone
/-! the first of the nearest colours -/
theorem dist_pos (c px : List Int) (hc : isPx c = true) (hp : isPx px = true) : 0 ≤ dist c px := by
  obtain ⟨a, b, c', rfl, ha, ha', hb, hb', hc1, hc1'⟩ := isPx_three hc
  obtain ⟨p, q, s, rfl, hp1, hp1', hq, hq', hs, hs'⟩ := isPx_three hp
  have b0 := sq_bound (a - p) (by omega) (by omega)
  have b1 := sq_bound (b - q) (by omega) (by omega)
  have b2 := sq_bound (c' - s) (by omega) (by omega)
  show 0 ≤ (a - p) * (a - p) + (b - q) * (b - q) + (c' - s) * (c' - s)
  omega
/-- the best so far is the first of the nearest so far -/
def BestOf (px : List Int) (all : List (List Int)) (i : Nat) (b : Int) : Prop := 0 ≤ b ∧ b < i ∧ ∀ j : Nat, j < i → dist (all.getD b.toNat []) px ≤ dist (all.getD j []) px ∧ ((j : Int) < b → dist (all.getD b.toNat []) px < dist (all.getD j []) px)
theorem near_best (px : List Int) (hp : isPx px = true) (all : List (List Int)) (hl : ∀ c ∈ all, isPx c = true) : ∀ (cs : List (List Int)) (i : Nat) (best least : Int), all.drop i = cs → i ≤ all.length → (i = 0 ∧ least < 0 ∨ BestOf px all i best ∧ least = dist (all.getD best.toNat []) px) → all ≠ [] → BestOf px all all.length (nearGo px cs i best least) := by
  intro cs
  induction cs with
  | nil =>
    intro i best least hd hi h hne
    have hlen : all.length ≤ i := List.drop_eq_nil_iff.1 hd
    have hi2 : i = all.length := by omega
    simp only [nearGo]
    rcases h with ⟨h0, _⟩ | ⟨h, _⟩
    · exact absurd (List.length_eq_zero_iff.1 (by omega)) hne
    · rw [← hi2]; exact h
  | cons c cs ih =>
    intro i best least hd hi h hne
    have hi2 : i < all.length := by
      have := congrArg List.length hd
      rw [List.length_drop, List.length_cons] at this
      omega
    have hc : all.getD i [] = c := by
      have := List.drop_eq_getElem_cons hi2
      rw [hd] at this
      rw [List.getD_eq_getElem?_getD, List.getElem?_eq_getElem hi2]
      exact (List.cons.inj this).1.symm
    have hd2 : all.drop (i + 1) = cs := by
      have := List.drop_eq_getElem_cons hi2
      rw [hd] at this
      exact (List.cons.inj this).2.symm
    have hcm : isPx c = true := hl c (by rw [← hc, List.getD_eq_getElem?_getD, List.getElem?_eq_getElem hi2]; exact List.getElem_mem hi2)
    have hpos := dist_pos c px hcm hp
    simp only [nearGo]
    have ei : ((i : Int) + 1) = ((i + 1 : Nat) : Int) := by omega
    rw [ei]
    split
    · rename_i hlt
      refine ih (i + 1) i (dist c px) hd2 (by omega) (.inr ⟨⟨by omega, by omega, ?_⟩, by rw [Int.toNat_natCast, hc]⟩) hne
      intro j hj
      rw [Int.toNat_natCast, hc]
      by_cases hji : j = i
      · subst hji
        rw [hc]
        exact ⟨Int.le_refl _, fun h => absurd h (by omega)⟩
      · rcases h with ⟨h0, _⟩ | ⟨⟨q0, q1, q2⟩, hle⟩
        · omega
        · have q := (q2 j (by omega)).1
          have hnn : 0 ≤ least := by
            rw [hle]
            have hb : best.toNat < all.length := by omega
            exact dist_pos _ px (hl _ (by rw [List.getD_eq_getElem?_getD, List.getElem?_eq_getElem hb]; exact List.getElem_mem hb)) hp
          rcases hlt with hlt | hlt
          · omega
          · rw [hle] at hlt
            exact ⟨by omega, fun _ => by omega⟩
    · rename_i hlt
      rcases h with ⟨_, h⟩ | ⟨⟨q0, q1, q2⟩, hle⟩
      · exact absurd (Or.inl h) hlt
      · refine ih (i + 1) best least hd2 (by omega) (.inr ⟨⟨q0, by omega, ?_⟩, hle⟩) hne
        intro j hj
        by_cases hji : j = i
        · subst hji
          rw [hc, ← hle]
          exact ⟨by omega, fun h => by omega⟩
        · exact q2 j (by omega)
theorem sq_zero {d : Int} (h : d * d ≤ 0) : d = 0 := by
  have h2 : 0 ≤ d * d := by
    rcases Int.le_total 0 d with h3 | h3
    · exact Int.mul_nonneg h3 h3
    · exact Int.mul_nonneg_of_nonpos_of_nonpos h3 h3
  have h4 : d * d = 0 := by omega
  rcases Int.mul_eq_zero.1 h4 with h5 | h5 <;> exact h5
theorem dist_zero (c px : List Int) (hc : isPx c = true) (hp : isPx px = true) (h : dist c px ≤ 0) : c = px := by
  obtain ⟨a, b, c', rfl, ha, ha', hb, hb', hc1, hc1'⟩ := isPx_three hc
  obtain ⟨p, q, s, rfl, hp1, hp1', hq, hq', hs, hs'⟩ := isPx_three hp
  have b0 := sq_bound (a - p) (by omega) (by omega)
  have b1 := sq_bound (b - q) (by omega) (by omega)
  have b2 := sq_bound (c' - s) (by omega) (by omega)
  have ed : dist [a, b, c'] [p, q, s] = (a - p) * (a - p) + (b - q) * (b - q) + (c' - s) * (c' - s) := rfl
  rw [ed] at h
  have e0 := sq_zero (d := a - p) (by omega)
  have e1 := sq_zero (d := b - q) (by omega)
  have e2 := sq_zero (d := c' - s) (by omega)
  obtain rfl : a = p := by omega
  obtain rfl : b = q := by omega
  obtain rfl : c' = s := by omega
  rfl
theorem dist_self (c : List Int) : dist c c = 0 := by unfold dist; simp
theorem getD_mem {α : Type} (l : List α) (j : Nat) (z : α) (h : j < l.length) : l.getD j z ∈ l := by
  rw [List.getD_eq_getElem?_getD, List.getElem?_eq_getElem h]; exact List.getElem_mem h
/-- a pixel that is a colour is told its own colour -/
theorem near_own (cols : List (List Int)) (hc : isCols cols = true) (px : List Int) (hm : px ∈ cols) : 0 ≤ nearGo px cols 0 0 (-1) ∧ nearGo px cols 0 0 (-1) < cols.length ∧ cols.getD (nearGo px cols 0 0 (-1)).toNat [] = px := by
  have hp := isCols_all hc px hm
  have hne : cols ≠ [] := fun e => by have := isCols_len hc; rw [e] at this; simp at this
  obtain ⟨q0, q1, q2⟩ := near_best px hp cols (isCols_all hc) cols 0 0 (-1) rfl (by omega) (.inl ⟨rfl, by omega⟩) hne
  simp only [Int.ofNat_zero] at q0 q1 q2
  refine ⟨q0, q1, ?_⟩
  obtain ⟨j, hj, e⟩ := List.getElem_of_mem hm
  have q := (q2 j hj).1
  have ej : cols.getD j [] = px := by rw [List.getD_eq_getElem?_getD, List.getElem?_eq_getElem hj]; exact e
  rw [ej, dist_self] at q
  exact dist_zero _ px (isCols_all hc _ (getD_mem cols _ [] (by omega))) hp q
end Go.Proofs.Ytopebplddfhaeaa.G

namespace Go.Proofs.Ytopebplddfhaeaa.G
open Go.RowKit Go.Proofs.YtopebplddfhaeaaW.PrintWords Go.Proofs.YtopebplddfhaeaaW.PrintLast Go.Proofs.YtopebplddfhaeaaW.PrintMore
attribute [local go_sem] max2_int min2_int max_two min_two max_three min_three max_four min_four   -- for this text's walks alone
theorem ditGo_len (cols : List (List Int)) (w n : Nat) : ∀ (ps : List (List Int)) (p : Nat) (H : Nat → Int), (ditGo cols w n ps p H).length = ps.length := by
  intro ps
  induction ps with
  | nil => intro p H; rfl
  | cons px ps ih => intro p H; simp only [ditGo, List.length_cons, ih]
theorem ditGo_in (cols : List (List Int)) (hne : cols ≠ []) (w n : Nat) : ∀ (ps : List (List Int)) (p : Nat) (H : Nat → Int), ∀ v ∈ ditGo cols w n ps p H, 0 ≤ v ∧ v < cols.length := by
  intro ps
  induction ps with
  | nil => intro p H v hv; simp [ditGo] at hv
  | cons px ps ih =>
    intro p H v hv
    simp only [ditGo, List.mem_cons] at hv
    rcases hv with rfl | hv
    · have := near_in (nowAt px H p) cols 0 0 (-1) (by omega) (by omega) (.inr ⟨rfl, rfl, hne⟩)
      omega
    · exact ih _ _ v hv
theorem addRow_zero (t : Nat) (k : Int) : addRow (fun _ => 0) t k (fun _ => 0) = fun _ => 0 := by
  funext q
  simp [addRow, addAt]
theorem stepH_zero (p w n : Nat) : stepH (fun _ => 0) p w n (fun _ => 0) = fun _ => 0 := by
  simp [stepH, addRow_zero]
theorem wrong_self (px : List Int) : wrong px px = fun _ => 0 := by
  funext j
  simp [wrong]
theorem nowAt_zero (px : List Int) (hp : isPx px = true) (p : Nat) : nowAt px (fun _ => 0) p = px := by
  obtain ⟨a, b, c, rfl, h1, h2, h3, h4, h5, h6⟩ := isPx_three hp
  have e0 : rd [a, b, c] 0 = a := rfl
  have e1 : rd [a, b, c] 1 = b := rfl
  have e2 : rd [a, b, c] 2 = c := rfl
  have er : rnd16 0 = 0 := by decide
  have ec : ∀ x : Int, 0 ≤ x → x ≤ 255 → clip8 x = x := fun x q q' => by unfold clip8; rw [if_neg (by omega), if_neg (by omega)]
  unfold nowAt
  rw [e0, e1, e2, er, Int.add_zero, Int.add_zero, Int.add_zero, ec a h1 h2, ec b h3 h4, ec c h5 h6]
theorem ditGo_own (cols : List (List Int)) (hc : isCols cols = true) (w n : Nat) : ∀ (ps : List (List Int)) (p : Nat), (∀ px ∈ ps, px ∈ cols) → ditGo cols w n ps p (fun _ => 0) = ps.map fun px => nearGo px cols 0 0 (-1) := by
  intro ps
  induction ps with
  | nil => intro p h; rfl
  | cons px ps ih =>
    intro p h
    have hm := h px (List.mem_cons_self ..)
    have hp := isCols_all hc px hm
    have e := (near_own cols hc px hm).2.2
    have ek : colAt cols (nearGo px cols 0 0 (-1)) = px := e
    simp only [ditGo, List.map_cons]
    rw [nowAt_zero px hp, ek, wrong_self, stepH_zero, ih (p + 1) (fun x hx => h x (List.mem_cons_of_mem _ hx))]
theorem ditM_len (l : List (List Int)) (w : Int) (c : List (List Int)) : (ditM l w c).length = 0 ∨ ditOk l w c = true ∧ (ditM l w c).length = l.length := by
  unfold ditM
  split
  · rename_i h; exact .inr ⟨h, ditGo_len ..⟩
  · exact .inl rfl
theorem ditM_in (l : List (List Int)) (w : Int) (c : List (List Int)) : ∀ v ∈ ditM l w c, 0 ≤ v ∧ v < c.length := by
  unfold ditM
  split
  · rename_i h
    refine ditGo_in c ?_ _ _ _ _ _
    intro e
    rw [e] at h
    simp [ditOk, isCols] at h
  · intro v hv; simp at hv
theorem dithered_l0 (l c : List (List Int)) (w : Int) (x : List Int) (hx : ∀ v ∈ x, 0 ≤ v ∧ v < c.length) (hl : x.length ≤ 4097) (hj : Ev (fun k => (impl_MapTo.f k l c).bind fun t => (if (t.length : Int) = 0 then (laws_FnDithered.j1 k l w c x t true) else (laws_FnDithered.j1 k l w c x t ((x.length : Int) != (l.length : Int))))) true) :
    ∀ (d i : Nat), x.length - i = d → i ≤ x.length → Ev (fun k => laws_FnDithered.l0 k l w c x (i : Int)) true := by
  intro d
  induction d with
  | zero =>
    intro i hd hi
    exact Ev.step (fun _ => by rw [laws_FnDithered.l0]) (Ev.ng (by omega) hj)
  | succ d ih =>
    intro i hd hi
    have hlt : i < x.length := by omega
    have nx := ih (i + 1) (by omega) (by omega)
    rw [← wrap_succ i (by omega)] at nx
    have q := hx x[i] (List.getElem_mem hlt)
    have er := rd_nat x i hlt
    exact Ev.step (fun _ => by rw [laws_FnDithered.l0]) (Ev.ip (by omega) (Ev.ip (by omega) (Ev.ng (by rw [er]; omega) (Ev.ng (by rw [er]; omega) nx))))
theorem dithered_l1 (w : Int) (c : List (List Int)) (tt : List Int) (hto : ∀ v ∈ tt, 0 ≤ v ∧ v < c.length) (hrow : ∀ v ∈ c, v.length = 3) (hl : tt.length ≤ 4097) (R : List (List Int)) (hR : R = tt.map fun v => c.getD v.toNat []) (hj : Ev (fun k => (impl_Dither.f R w c).bind fun t342 => ((impl_MapTo.f k R c).bind fun t345 => ((laws_sameInts.f k t342 t345).bind fun t348 => (some t348)))) true) :
    ∀ (d i : Nat), tt.length - i = d → i ≤ tt.length → Ev (fun k => laws_FnDithered.l1 k w c tt (R.take i) (i : Int)) true := by
  have hRl : R.length = tt.length := by rw [hR, List.length_map]
  intro d
  induction d with
  | zero =>
    intro i hd hi
    rw [List.take_of_length_le (by omega)]
    exact Ev.step (fun _ => by rw [laws_FnDithered.l1]) (Ev.ng (by omega) hj)
  | succ d ih =>
    intro i hd hi
    have hlt : i < tt.length := by omega
    have hlr : i < R.length := by omega
    have nx := ih (i + 1) (by omega) (by omega)
    have q := hto tt[i] (List.getElem_mem hlt)
    have er := rd_nat tt i hlt
    have eR : R[i] = c.getD tt[i].toNat [] := by
      subst hR
      rw [List.getElem_map]
    have el : rd_L2 c tt[i] = R[i] := by rw [eR]; rfl
    have hlen : (R[i]).length = 3 := by rw [eR]; exact hrow _ (getD_mem c _ [] (by omega))
    rw [← wrap_succ i (by omega), List.take_succ_eq_append_getElem hlr] at nx
    refine Ev.step (fun _ => by rw [laws_FnDithered.l1]) (Ev.ip (by omega) (Ev.bind (Ev.c rfl) ?_))
    refine Ev.ip (by omega) ?_
    rw [er, el]
    refine Ev.ip q.1 (Ev.ip q.2 ?_)
    exact Ev.ip (by rw [hlen]; simp) (Ev.ip (by rw [List.length_take]; omega) nx)
theorem pure_FnDithered : ∀ (l0 : List Int), (l0.length ≤ 9223372036854775807 ∧ ∀ x0_ ∈ l0, (Lit.int .u8 x0_).wf = true) → ∃ k, laws_FnDithered.f k l0 = some true := by
  intro l0 h0
  have hb0 : ∀ x ∈ l0, 0 ≤ x ∧ x ≤ 255 := fun x hx => wf_u8 (h0.2 x hx)
  have hbig : ∀ l : List Int, laws_big.f l = some (decide ((l.length : Int) > 1048576)) := fun l => rfl
  have : Ev (fun k => laws_FnDithered.f k l0) true := by
    refine Ev.bind (Ev.c (hbig l0)) ?_
    by_cases b0 : (l0.length : Int) > 1048576
    · exact Ev.ip (decide_eq_true b0) (Ev.now _)
    · refine Ev.ng (by simp; omega) ?_
      obtain ⟨⟨l, w, c⟩, hr, r1, r2⟩ := spec_DrawDither.ev l0 hb0 (by omega)
      simp only at r1 r2
      have ei : ∀ (l : List (List Int)), l.length ≤ 4097 → impl_Dither.f l w c = some (ditM l w c) := fun l h => if_pos (by omega)
      have es : spec_Dither.f l w c = some (ditM l w c) := if_pos (by omega)
      have hlen := ditM_len l w c
      have hxl : (ditM l w c).length ≤ 4097 := by omega
      refine Ev.bind hr (Ev.bind (Ev.c (ei l r1)) (Ev.bind (Ev.c es) (Ev.bind (laws_sameInts.same _ (by omega)) (Ev.ip rfl ?_))))
      refine dithered_l0 l c w _ (ditM_in l w c) hxl ?_ _ 0 rfl (by omega)
      have hend : ∀ tt : List Int, Ev (fun k => laws_FnDithered.j1 k l w c (ditM l w c) tt true) true := by
        intro tt
        refine Ev.step (fun _ => by rw [laws_FnDithered.j1]) (Ev.ip rfl ?_)
        by_cases hz : ((ditM l w c).length : Int) = 0
        · exact Ev.ip hz (Ev.now _)
        · refine Ev.ng hz (Ev.eq (Ev.now _) ?_)
          rcases hlen with h | h
          · omega
          · rw [h.2]; simp
      refine Ev.bind (impl_MapTo.ev l c) ?_
      by_cases ht : ((mapM l c).length : Int) = 0
      · exact Ev.ip ht (hend _)
      · refine Ev.ng ht ?_
        cases hne : (((ditM l w c).length : Int) != (l.length : Int))
        · have hne2 : (ditM l w c).length = l.length := by
            rw [bne_eq_false_iff_eq] at hne
            omega
          have hg : ((decide (l.length ≤ 4096) && l.all isPx) && isCols c) = true := by
            cases hg : ((decide (l.length ≤ 4096) && l.all isPx) && isCols c)
            · unfold mapM at ht; rw [hg] at ht; simp at ht
            · rfl
          have em : mapM l c = l.map fun px => nearGo px c 0 0 (-1) := if_pos hg
          rw [Bool.and_eq_true, Bool.and_eq_true, decide_eq_true_eq, List.all_eq_true] at hg
          obtain ⟨⟨hl1, hl2⟩, hc⟩ := hg
          rw [em, List.length_map] at ht
          have hok : ditOk l w c = true := by
            rcases hlen with h | h
            · omega
            · exact h.1
          have hcne : c ≠ [] := fun e => by have := isCols_len hc; rw [e] at this; simp at this
          refine Ev.step (fun _ => by rw [laws_FnDithered.j1]) (Ev.ng (by decide) ?_)
          rw [em]
          have hto : ∀ v ∈ (l.map fun px => nearGo px c 0 0 (-1)), 0 ≤ v ∧ v < c.length := by
            intro v hv
            obtain ⟨px, hpx, rfl⟩ := List.mem_map.1 hv
            have := near_in px c 0 0 (-1) (by omega) (by omega) (.inr ⟨rfl, rfl, hcne⟩)
            omega
          obtain ⟨R, hR⟩ : ∃ R, R = (l.map fun px => nearGo px c 0 0 (-1)).map fun v => c.getD v.toNat [] := ⟨_, rfl⟩
          have hRl : R.length = l.length := by rw [hR, List.length_map, List.length_map]
          have hRm : ∀ px ∈ R, px ∈ c := by
            intro px hpx
            rw [hR] at hpx
            obtain ⟨v, hv, rfl⟩ := List.mem_map.1 hpx
            have := hto v hv
            exact getD_mem c _ [] (by omega)
          have hRp : ∀ px ∈ R, isPx px = true := fun px h => isCols_all hc px (hRm px h)
          have okR : ditOk R w c = true := by
            unfold ditOk at hok ⊢
            simp only [Bool.and_eq_true, decide_eq_true_eq, List.all_eq_true] at hok ⊢
            rw [hRl]
            exact ⟨⟨⟨⟨hok.1.1.1.1, hRp⟩, hok.1.1.2⟩, hok.1.2⟩, hok.2⟩
          have e1 : ditM R w c = R.map fun px => nearGo px c 0 0 (-1) := by
            unfold ditM
            rw [if_pos okR]
            exact ditGo_own c hc _ _ R 0 hRm
          have e2 : mapM R c = R.map fun px => nearGo px c 0 0 (-1) := by
            unfold mapM
            refine if_pos ?_
            rw [Bool.and_eq_true, Bool.and_eq_true, decide_eq_true_eq, List.all_eq_true]
            exact ⟨⟨by omega, hRp⟩, hc⟩
          have hrow : ∀ v ∈ c, v.length = 3 := by
            intro v hv
            obtain ⟨a, b, d, rfl, _⟩ := isPx_three (isCols_all hc v hv)
            rfl
          have key := dithered_l1 w c (l.map fun px => nearGo px c 0 0 (-1)) hto hrow (by rw [List.length_map]; omega) R hR
            (Ev.bind (Ev.c (ei R (by omega))) (Ev.bind (impl_MapTo.ev R c) (Ev.bind (by rw [e1, e2]; exact laws_sameInts.same _ (by rw [List.length_map]; omega)) (Ev.now _)))) _ 0 rfl (by omega)
          exact key
        · exact hend _
  exact this.rounds
theorem PureFnDithered : ∀ (l0 : List Int), (l0.length ≤ 9223372036854775807 ∧ ∀ x0_ ∈ l0, (Lit.int .u8 x0_).wf = true) → ∃ k, laws_FnDithered.f k l0 = some true :=
  pure_FnDithered
end Go.Proofs.Ytopebplddfhaeaa.G

namespace Go.Proofs.Ytopebplddfhaeaa.G
open Go.RowKit Go.Proofs.YtopebplddfhaeaaW.PrintWords Go.Proofs.YtopebplddfhaeaaW.PrintLast Go.Proofs.YtopebplddfhaeaaW.PrintMore
attribute [local go_sem] max2_int min2_int max_two min_two max_three min_three max_four min_four   -- for this text's walks alone
--import Derived.Deep.Slices
--import Derived.ChangeArms
/-! arguments of any of our kinds, opened: what reads as data reads as a value of the kind -/
/-- type t reads as kind d, with values that are wf -/
def Opens {α : Type} (P : Program) (t : TypeId) (d : Kd α) (wf : α → Prop) : Prop :=
  P.cellsOf t = d.sz ∧ ∀ {H : Type} {enc : TypeId × Value → H} {w : World} {base fuel : Nat} {cs : List Value} {x : DataW H × List MemPlace}, DataW.trod enc P w base (fun _ => true) true fuel t cs = some x → ∃ a, d.K w a cs ∧ wf a
theorem opens_int {P : Program} {t : TypeId} {k : IntKind} (hc : P.cellsOf t = 1) (ht : P.underlying t = some (.int k)) : Opens P t (Kd.int k) (fun n => (Lit.int k n).wf = true) :=
  ⟨hc, fun h => by
    obtain ⟨n, rfl, _, hw⟩ := DataW.trod_int ht h
    exact ⟨n, rfl, hw⟩⟩
theorem opens_bool {P : Program} {t : TypeId} (hc : P.cellsOf t = 1) (ht : P.underlying t = some .bool) : Opens P t Kd.bool (fun _ => True) :=
  ⟨hc, fun h => by
    obtain ⟨b, rfl, _⟩ := DataW.trod_bool ht h
    exact ⟨b, rfl, trivial⟩⟩
theorem opens_slice {α : Type} {P : Program} {t e : TypeId} {d : Kd α} {wf : α → Prop} (hc : P.cellsOf t = 1) (ht : P.underlying t = some (.slice e)) (h0 : Opens P e d wf) : Opens P t (Kd.slice e d) (fun l => l.length ≤ 9223372036854775807 ∧ ∀ x ∈ l, wf x) :=
  ⟨hc, fun {H enc w base fuel cs x} h => by
    rcases Go.Deep.open_slice ht h with ⟨rfl, _⟩ | ⟨a, len, cap, m, n, D, Pl, rfl, hb, hl, hm, hmm, rfl, hx⟩
    · exact ⟨[], ⟨none, 0, rfl, Nat.le_refl _, rfl, by simp, fun h => absurd h (by simp)⟩, by simp, by simp⟩
    · simp only [if_true] at hmm
      subst hmm
      have build : ∀ n, n ≤ len → ∃ l : List α, l.length = n ∧ (∀ j p, l[j]? = some p → ∃ c, c.length = d.sz ∧ d.K w p c ∧ ∀ i u, c[i]? = some u → w.cell? (a.add (j * d.sz + i)) = some u) ∧ ∀ x ∈ l, wf x := by
        intro n
        induction n with
        | zero => exact fun _ => ⟨[], rfl, by simp, by simp⟩
        | succ n ih =>
          intro hn
          obtain ⟨l, hl1, hl2, hl3⟩ := ih (by omega)
          obtain ⟨cs', h1, h2⟩ := hx n (by omega)
          obtain ⟨b, hk, hw⟩ := h0.2 h2
          obtain ⟨_, hcl, hcell⟩ := World.cells?_some h1
          rw [h0.1] at hcl hcell
          refine ⟨l ++ [b], by simp [hl1], fun j p hj => ?_, fun x hx => ?_⟩
          · rcases Nat.lt_or_ge j l.length with hlt | hge
            · rw [List.getElem?_append_left hlt] at hj
              exact hl2 j p hj
            · obtain rfl : j = l.length := by
                have := (List.getElem?_eq_some_iff.1 hj).1
                simp at this; omega
              obtain rfl : b = p := by simpa using hj
              refine ⟨cs', hcl, hk, fun i u hu => ?_⟩
              have hi : i < d.sz := by rw [← hcl]; exact (List.getElem?_eq_some_iff.1 hu).1
              have := hcell i hi
              rw [Go.Deep.add_add] at this
              rw [hl1, this, hu]
          · rcases List.mem_append.1 hx with hx | hx
            · exact hl3 x hx
            · rw [List.mem_singleton.1 hx]; exact hw
      obtain ⟨l, hl1, hl2, hl3⟩ := build len (Nat.le_refl _)
      subst hl1
      have hm' : m ≤ 9223372036854775807 := hm
      exact ⟨l, ⟨some a, m, rfl, hl, rfl, by omega, fun _ => ⟨a, rfl, hl2⟩⟩, by omega, hl3⟩⟩
/-- a slice argument, opened -/
theorem open_slice_arg {α H : Type} {enc : TypeId × Value → H} {P : Program} {W : World} {base : Nat} {t e : TypeId} {d : Kd α} {wf : List α → Prop} (ho : Opens P t (Kd.slice e d) wf) {a : Option Addr} {len cap : Nat} {dd : DataW H} {ps : List MemPlace}
    (h : DataW.Trod enc P W base (fun _ => true) true t (.slice a len cap) dd ps) : ∃ l : List α, len = l.length ∧ l.length ≤ cap ∧ d.C W a l.length l ∧ wf l := by
  obtain ⟨fuel, hf⟩ := h
  obtain ⟨l, ⟨A, c, e1, hl, hC⟩, hw⟩ := ho.2 hf
  injection e1 with e1 _
  injection e1 with e1 e2 e3
  subst e1; subst e2; subst e3
  exact ⟨l, rfl, hl, hC, hw⟩
end Go.Proofs.Ytopebplddfhaeaa.G

namespace Go.Proofs.Ytopebplddfhaeaa.fnDithered
open Go.ChangeShapes Go.WideShapes Go.ChangeAt Go.RowKit Go.Proofs.Ytopebplddfhaeaa.G Go.Proofs.YtopebplddfhaeaaW.PrintWords
open Go.ChangeMaps (open_string shut_string)
theorem own : ownKnob Try.prog.godebug = none := by kernel_rfl
theorem laidOut : laidOutB Try.prog = true := by kernel_rfl
set_option maxRecDepth 100000 in
theorem lifted (os : Os) (started : os.Started) (H : Type) (enc : TypeId × Value → H) :
    ReturnsInHanded {} Try.checked os 4 .any (Rows.fnDitheredSpec.pre6 enc Try.prog Try.f4 Rows.fnDitheredRow.domain false) (Rows.fnDitheredSpec.post enc Try.prog Try.f4 false true false false) := by
  refine returnsInHanded_of_change_sized (C := Try.checked) own started (by kernel_rfl) Try.func4
    (ChangeSpec.witness6 (enc := enc) (C := Try.checked) false ⟨#[], #[.slice none 0 0], []⟩ 8 (by kernel_rfl) (by kernel_rfl) (by kernel_rfl) (by kernel_rfl)) ?_
  intro W base args ds gs before hval0 hW hcnd hsz0 _
  have hval : ∀ (j : Nat) t v, Try.f4.params[j]? = some t → args[j]? = some v → Value.okWide Try.prog W .any base t v := hval0
  have hW' := hW
  obtain ⟨p, q, hA0, hV, rfl, hfz, hnd⟩ := hW
  have hA : DataW.TrodAll enc Try.prog W 0 (fun _ => true) true Try.f4.params.toList args.toList ds p := hA0
  rw [Try.params4] at hA hval
  obtain ⟨v0, vs0, d0, ds0, p0, q0, hargs, rfl, rfl, h0, r0⟩ := trodAll_cons hA
  obtain ⟨rfl, rfl, rfl⟩ := trodAll_nil r0
  obtain rfl : args = #[v0] := by cases args; simp_all
  obtain ⟨rfl, rfl⟩ := trodVars_none hV
  obtain ⟨a0, len0, cap0, rfl⟩ := okWide_slice Try.underlying22 (hval 0 22 v0 rfl rfl)
  have k0 := h0
  have lt0 : ∀ x ∈ p0, x.block < W.heap.size := by obtain ⟨m, hm⟩ := k0; exact DataW.trod_lt m _ _ _ hm
  obtain ⟨l0, rfl, hl0, hC0, w0⟩ := open_slice_arg (opens_slice (by kernel_rfl) Try.underlying22 (opens_int (by kernel_rfl) Try.underlying5)) h0
  clear hA0 hval0 hsz0
  obtain ⟨k, hk⟩ := PureFnDithered l0 w0
  refine (laws_FnDithered.calls k _ _ l0 true W hC0 hl0 hk).mono fun e W' ⟨he, bel0⟩ => ?_
  have bel : Below W.heap.size W W' := bel0
  subst he
  exact ⟨_, rfl, _, _, _, [], _, [], hW', trodAll_mk1 (shut_bool Try.underlying4 _), (trodAll_cons_mk (Below.trod laidOut (by kernel_rfl) (of_decide_eq_true (by kernel_rfl)) k0 bel lt0) trodAll_mk0), rfl, bel.frame _, fun h => by cases h⟩
theorem over : Rows.fnDitheredRow.holds Try.pinned (OpenSpec.ofChange Rows.fnDitheredSpec) :=
  OpenClaim.holds_of_wide 4 Try.f4 rfl rfl rfl rfl rfl rfl rfl ⟨rfl, rfl, rfl, rfl, rfl⟩ rfl rfl rfl rfl rfl (by kernel_rfl) Try.func4 (by kernel_rfl)
    (of_decide_eq_true (by kernel_rfl)) (by unfold Func.isWrapper; first | (rw [if_pos (by decide +kernel)]; kernel_rfl) | (rw [if_neg (by decide +kernel)]; exact ⟨rfl, rfl⟩))
    (fun os started H enc _ => lifted os started H enc)
theorem proved : Rows.FnDitheredSaid := over
#print axioms proved
end Go.Proofs.Ytopebplddfhaeaa.fnDithered
namespace Go.Proofs.Ytopebplddfhaeaa
/-- The row, under a short name, for the claim. -/
theorem fnDithered_holds : Rows.FnDitheredSaid := fnDithered.proved
end Go.Proofs.Ytopebplddfhaeaa
