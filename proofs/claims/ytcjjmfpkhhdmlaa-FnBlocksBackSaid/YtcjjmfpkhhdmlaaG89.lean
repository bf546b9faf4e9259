-- Written by gp.py (a program of this session's, over the kit's print). Not trusted: Lean checks it.
import Derived.Test.YtcjjmfpkhhdmlaaG0h
import Derived.Test.YtcjjmfpkhhdmlaaG91
import Derived.Test.YtcjjmfpkhhdmlaaG95
import Derived.Test.YtcjjmfpkhhdmlaaGLib
namespace Go.Proofs.Ytcjjmfpkhhdmlaa.G
open Go.RowKit Go.Proofs.YtcjjmfpkhhdmlaaW.PrintWords Go.Proofs.YtcjjmfpkhhdmlaaW.PrintLast Go.Proofs.YtcjjmfpkhhdmlaaW.PrintMore
attribute [local go_sem] max2_int min2_int max_two min_two max_three min_three max_four min_four   -- for this text's walks alone
set_option linter.unusedVariables false
set_option linter.unusedSimpArgs false

/-! ### impl_cutBlocks: function 89 -/
/-- a sample of a block, a row of blocks, all blocks -/
def cutG (l : List Int) (w : Int) (by_ bx : Nat) (y x : Nat) : Int := rd l ((8 * (by_ : Int) + y) * w + 8 * bx + x)
def cutRow (l : List Int) (w : Int) (n : Nat) (by_ : Nat) : List (List Int) := (List.range n).map fun bx => planeM 8 8 (cutG l w by_ bx)
def cutM (l : List Int) (w : Int) (n m : Nat) : List (List Int) := (List.range m).flatMap (cutRow l w n)
theorem cutRow_succ (l : List Int) (w : Int) (n by_ : Nat) : cutRow l w (n + 1) by_ = cutRow l w n by_ ++ [planeM 8 8 (cutG l w by_ n)] := by simp [cutRow, List.range_succ]
theorem cutM_succ (l : List Int) (w : Int) (n m : Nat) : cutM l w n (m + 1) = cutM l w n m ++ cutRow l w n m := by simp [cutM, List.range_succ]
theorem cutRow_len (l : List Int) (w : Int) (n by_ : Nat) : (cutRow l w n by_).length = n := by simp [cutRow]
theorem cutM_len (l : List Int) (w : Int) (n m : Nat) : (cutM l w n m).length = m * n := by
  induction m with
  | zero => simp [cutM]
  | succ m ih => rw [cutM_succ, List.length_append, ih, cutRow_len, Nat.succ_mul]
def cutOk (l : List Int) (w h : Int) : Bool := planeOk l w h && (decide (w % 8 = 0) && decide (h % 8 = 0))
def impl_cutBlocks.f (l0 : List Int) (a1 a2 : Int) : Option (List (List Int)) := if cutOk l0 a1 a2 then some (cutM l0 a1 (a1 / 8).toNat (a2 / 8).toNat) else none
theorem S_ok {α : Type} {d : Kd α} {e base : Nat} {w : World} {ok : Nat → Prop} {v : Value} {xs : List α} (h : Kd.S d e w base ok v xs) : ∀ k, v.ownBlock = some k → ok k := by
  obtain ⟨f, h0, _⟩ := h
  exact h0
def CutKeep (w W : World) (gl gw : Nat) (A0 : Option Addr) (c0 : Nat) (l : List Int) (wd : Int) (ok : Nat → Prop) (v7 : Value) (out : List (List Int)) : Prop :=
  W.heap[gl]? = some (.cells #[.slice A0 l.length c0] 22 (0, 0)) ∧ W.heap[gw]? = some (.cells #[.int .i64 wd] 3 (0, 0)) ∧ Below w.heap.size w W ∧ Kd.S (Kd.slice 3 (Kd.int .i64)) 22 W w.heap.size ok v7 out
def CutY (w : World) (gl gw : Nat) (A0 : Option Addr) (c0 : Nat) (l : List Int) (wd : Int) (ok : Nat → Prop) (n m : Nat) (v7 v13 : Value) (w' : World) : Prop :=
  ∃ y : Nat, v13 = .int .i64 y ∧ y ≤ m ∧ Aside0 (CutKeep w w' gl gw A0 c0 l wd ok v7 (cutM l wd n y))
def CutX (w : World) (gl gw gy : Nat) (A0 : Option Addr) (c0 : Nat) (l : List Int) (wd : Int) (ok : Nat → Prop) (n y : Nat) (v7 v18 : Value) (w' : World) : Prop :=
  ∃ x : Nat, v18 = .int .i64 x ∧ x ≤ n ∧ Aside0 (CutKeep w w' gl gw A0 c0 l wd ok v7 (cutM l wd n y ++ cutRow l wd x y)) ∧ Aside0 (w'.heap[gy]? = some (.cells #[.int .i64 (y : Int)] 3 (0, 0)))
set_option maxRecDepth 100000 in
set_option maxHeartbeats 4000000 in
theorem cut_lit (l : List Int) (wd h : Int) (gl gw gy gx : Nat) (A : Option Addr) (c : Nat) (W1 : World) (by_ bx : Nat) (k1 : W1.heap[gl]? = some (.cells #[.slice A l.length c] 22 (0, 0))) (k2 : W1.heap[gw]? = some (.cells #[.int .i64 wd] 3 (0, 0))) (k3 : W1.heap[gy]? = some (.cells #[.int .i64 (by_ : Int)] 3 (0, 0))) (k4 : W1.heap[gx]? = some (.cells #[.int .i64 (bx : Int)] 3 (0, 0))) (hC : Kd.C (Kd.int .i64) W1 A l.length l) (hs : sidesOk wd h = true) (hl : (l.length : Int) = wd * h) (hby : 8 * (by_ : Int) + 8 ≤ h) (hbx : 8 * (bx : Int) + 8 ≤ wd) (y x : Nat) (hy : y < 8) (hx : x < 8) :
    Calls Try.prog 148 #[.int .i64 (y : Int), .int .i64 (x : Int), .pointer (some ⟨gl, 0, none⟩), .pointer (some ⟨gy, 0, none⟩), .pointer (some ⟨gw, 0, none⟩), .pointer (some ⟨gx, 0, none⟩)] W1 fun e w' => e = .returned (.int .i64 (cutG l wd by_ bx y x)) ∧ Drawn0 W1 w' := by
  obtain ⟨s1, s2, s3, s4, s5⟩ := sides_of hs
  have hm := mul_1024 wd h s1 s2 s3 s4
  obtain ⟨r, hr⟩ : ∃ r : Int, r = 8 * (by_ : Int) + y := ⟨_, rfl⟩
  have e1 : (r + 1) * wd ≤ h * wd := Int.mul_le_mul_of_nonneg_right (by omega) (by omega)
  rw [Int.add_mul, Int.one_mul, Int.mul_comm h wd] at e1
  have e0 : 0 ≤ r * wd := Int.mul_nonneg (by omega) (by omega)
  obtain ⟨p, hp⟩ : ∃ p, p = r * wd := ⟨_, rfl⟩
  rw [← hp] at e0 e1
  obtain ⟨ad, rfl, hcell⟩ := Kd.at_int hC (p + 8 * bx + x) (by omega) (by omega)
  have c1 := blk_cell k1 0
  have c2 := blk_cell k2 0
  have c3 := blk_cell k3 0
  have c4 := blk_cell k4 0
  simp at c1 c2 c3 c4
  have v1 : wrap64 (8 * (by_ : Int)) = 8 * (by_ : Int) := wrap_in _ (by omega) (by omega)
  have v2 : wrap64 (8 * (by_ : Int) + y) = r := by rw [← hr]; exact wrap_in _ (by omega) (by omega)
  have v5 : 8 * (by_ : Int) + y = r := hr.symm
  have w1 : wrap64 (r * wd) = p := by rw [← hp]; exact wrap_in _ (by omega) (by omega)
  have v3 : wrap64 (8 * (bx : Int)) = 8 * (bx : Int) := wrap_in _ (by omega) (by omega)
  have w2 : wrap64 (p + 8 * (bx : Int)) = p + 8 * bx := wrap_in _ (by omega) (by omega)
  have w3 : wrap64 (p + 8 * (bx : Int) + x) = p + 8 * bx + x := wrap_in _ (by omega) (by omega)
  have HP := Aside0.mk (show cutG l wd by_ bx y x = rd l (p + 8 * bx + x) by unfold cutG; rw [v5, hp])
  have b0 : p + 8 * bx + x < (l.length : Int) := by omega
  have b1 : 0 ≤ p + 8 * (bx : Int) + x := by omega
  clear hr hp hC k1 k2 k3 k4 hs hl hm e1 s5
  go_enter Try.func148, Try.ntmps148
  go_wp2
  go_ret
  refine ⟨?_, ⟨0, rfl⟩⟩
  rw [HP.out]
  rfl
set_option maxRecDepth 100000 in
set_option maxHeartbeats 4000000 in
theorem impl_cutBlocks.calls (A0 : Option Addr) (c0 : Nat) (l0 : List Int) (a1 a2 : Int) (r : List (List Int)) (w : World) (hr0 : Kd.C (Kd.int .i64) w A0 l0.length l0) (hc0 : l0.length ≤ c0) (h : impl_cutBlocks.f l0 a1 a2 = some r) :
    Calls Try.prog 89 #[.slice A0 l0.length c0, .int .i64 a1, .int .i64 a2] w fun e w' => ∃ v0_ : Value, e = .returned (v0_) ∧ Kd.S (Kd.slice 3 (Kd.int .i64)) 22 w' w.heap.size (fun _ => True) v0_ r ∧ Below w.heap.size w w' := by
  unfold impl_cutBlocks.f at h
  split at h
  · rename_i hok
    have HH := Aside0.mk (Option.some.inj h)
    simp only [cutOk, Bool.and_eq_true, decide_eq_true_eq] at hok
    obtain ⟨hpl, m1, m2⟩ := hok
    obtain ⟨p1, p2, p3⟩ := plane_of hpl
    obtain ⟨s1, s2, s3, s4, s5⟩ := sides_of p1
    obtain ⟨n, hn⟩ : ∃ n : Nat, a1 = 8 * (n : Int) := ⟨(a1 / 8).toNat, by omega⟩
    obtain ⟨m, hm⟩ : ∃ m : Nat, a2 = 8 * (m : Int) := ⟨(a2 / 8).toNat, by omega⟩
    have q1 : Int.tdiv a1 8 = (n : Int) := by rw [Int.tdiv_eq_ediv_of_nonneg (by omega)]; omega
    have q2 : Int.tdiv a2 8 = (m : Int) := by rw [Int.tdiv_eq_ediv_of_nonneg (by omega)]; omega
    rw [show (a1 / 8).toNat = n by omega, show (a2 / 8).toNat = m by omega] at HH
    have P1 := Aside0.mk p1
    have P2 := Aside0.mk p2
    have HR0 := Aside0.mk hr0
    have HC0 := Aside0.mk hc0
    have HN := Aside0.mk hn
    have HM := Aside0.mk hm
    have n128 : n ≤ 128 := by omega
    have m128 : m ≤ 128 := by omega
    clear h hr0 hc0 hpl p1 p2 p3 m1 m2 s5 hn hm s1 s2 s3 s4
    go_enter Try.func89, Try.ntmps89
    go_upto_region 1 with (fail)
    generalize hW : (w.alloc (Obj.cells #[Value.slice A0 l0.length c0] 22)).alloc (Obj.cells #[Value.int IntKind.i64 a1] 3) = W1
    have k1 : W1.heap[w.heap.size]? = some (.cells #[.slice A0 l0.length c0] 22 (0, 0)) := by rw [← hW]; exact blk_alloc (blk_new _ _) _
    have k2 : W1.heap[w.heap.size + 1]? = some (.cells #[.int .i64 a1] 3 (0, 0)) := by
      have := blk_new (w.alloc (Obj.cells #[Value.slice A0 l0.length c0] 22)) (Obj.cells #[Value.int IntKind.i64 a1] 3)
      rw [hW] at this; simpa using this
    have HB1 := Aside0.mk (show Below w.heap.size w W1 by rw [← hW]; exact below_alloc (below_alloc (Below.refl _ _) _) _)
    clear hW
    generalize hgw : w.heap.size + 1 = gw at k2 ⊢
    have hg1 : w.heap.size < gw := by omega
    have hg2 : gw < W1.heap.size := blk_lt k2
    have K1 := Aside0.mk k1
    have K2 := Aside0.mk k2
    clear k1 k2 hgw
    go_wp2_with (first | ((with_reducible refine gate_dst (N := 10) rfl ?_); refine Kd.S_lit (w0 := w) (Kd.slice 3 (Kd.int .i64)) w.heap.size 22 ?hg (N := 10) ?hd (xs := ([] : List (List Int))) (inner := []) (ok := fun k => gw < k) (okp := fun _ => False) ?hr ?hp (fun _ hk => hk.elim) hg2 HB1.out HB1.out.size (by simp) ?_; (case hd => rfl); (case hg => rfl); (case hr => first | (go_simp; done) | (go_simp; rfl)); (case hp => exact (Reps.none _ _)); intro v7 w1 ho hb hg_ hnew_; have HO := Aside0.mk ho; have HB := Aside0.mk hb; have HG := Aside0.mk hg_; clear ho hb hg_ hnew_))
    have HK := Aside0.mk (show CutKeep w w1 w.heap.size gw A0 c0 l0 a1 (fun k => gw < k) v7 (cutM l0 a1 n 0) from ⟨blk_grown K1.out HG.out (by simp), blk_grown K2.out HG.out (by simp), HB.out, HO.out⟩)
    clear HO HB HG K1 K2 HB1
    go_loopw [7, 13] (fun v7 v13 w' => CutY w w.heap.size gw A0 c0 l0 a1 (fun k => gw < k) n m v7 v13 w') (fun v7 v13 w' => m - (intOf v13).toNat)
    case atStart => exact ⟨0, rfl, Nat.zero_le _, HK⟩
    case round =>
      clear HK
      obtain ⟨y, rfl, hy, HK⟩ := hrel
      obtain ⟨k1, k2, hb, ho⟩ := HK.out
      have c2 := blk_cell k2 0
      simp at c2
      have K1 := Aside0.mk k1
      have K2 := Aside0.mk k2
      have HB := Aside0.mk hb
      have HO := Aside0.mk ho
      clear k1 k2 hb ho
      by_cases hlt : y < m
      · have c2a : (wr.alloc (Obj.cells #[Value.int IntKind.i64 (y : Int)] 3)).cell? ⟨gw, 0, none⟩ = some (.int .i64 a1) := (World.cell?_alloc_lt _ _ _ (blk_lt K2.out)).trans c2
        go_wp2
        have KY := Aside0.mk (blk_new wr (Obj.cells #[Value.int IntKind.i64 (y : Int)] 3))
        have HK2 := Aside0.mk (show CutKeep w (wr.alloc (Obj.cells #[Value.int IntKind.i64 (y : Int)] 3)) w.heap.size gw A0 c0 l0 a1 (fun k => gw < k) _ (cutM l0 a1 n y ++ cutRow l0 a1 0 y) from ⟨blk_alloc K1.out _, blk_alloc K2.out _, below_alloc HB.out _, by rw [show cutRow l0 a1 0 y = [] from rfl, List.append_nil]; exact Kd.S_alloc HO.out _⟩)
        have gyw : gw < wr.heap.size := blk_lt K2.out
        generalize wr.heap.size = gy at KY gyw ⊢
        generalize wr.alloc (Obj.cells #[Value.int IntKind.i64 (y : Int)] 3) = W2 at KY HK2 ⊢
        clear K1 K2 HB HO c2 c2a HK
        go_loopw [7, 18] (fun v7 v18 w' => CutX w w.heap.size gw gy A0 c0 l0 a1 (fun k => gw < k) n y v7 v18 w') (fun v7 v18 w' => n - (intOf v18).toNat)
        case atStart => exact ⟨0, rfl, Nat.zero_le _, HK2, KY⟩
        case round =>
          clear HK2 KY
          obtain ⟨x, rfl, hx, HK, KY⟩ := hrel
          obtain ⟨k1, k2, hb, ho⟩ := HK.out
          by_cases hlx : x < n
          · have hlen := cutRow_len l0 a1 x y
            have hlen2 := cutM_len l0 a1 n y
            have hyn : y * n ≤ 128 * 128 := Nat.mul_le_mul (by omega) n128
            have hll : (cutM l0 a1 n y ++ cutRow l0 a1 x y).length ≤ 20000 := by rw [List.length_append]; omega
            clear hlen hlen2 hyn
            obtain ⟨out, hout⟩ : ∃ o, o = cutM l0 a1 n y ++ cutRow l0 a1 x y := ⟨_, rfl⟩
            rw [← hout] at ho hll
            have HOUT := Aside0.mk hout
            have K1 := Aside0.mk k1
            have K2 := Aside0.mk k2
            have HB := Aside0.mk hb
            have HO := Aside0.mk ho
            obtain ⟨A7, c7, e7⟩ := Kd.R_slice (Kd.S_R ho)
            subst e7
            have gwr : gw < wr.heap.size := blk_lt k2
            clear k1 k2 hb ho hout HK
            go_wp2_with fail
            have KX := Aside0.mk (blk_new wr (Obj.cells #[Value.int IntKind.i64 (x : Int)] 3))
            refine (impl_plane.calls 148 #[.pointer (some ⟨w.heap.size, 0, none⟩), .pointer (some ⟨gy, 0, none⟩), .pointer (some ⟨gw, 0, none⟩), .pointer (some ⟨wr.heap.size, 0, none⟩)] 8 8 (cutG l0 a1 y x) _ (by omega) (by omega) ⟨fun args W => by go_simp, ?_⟩).mono ?_
            · intro W2 r c hb hr hc
              have hb2 : Below wr.heap.size wr W2 := Below.trans (below_alloc (Below.refl _ _) _) (hb.mono (by rw [World.size_alloc]; omega))
              exact cut_lit l0 a1 a2 w.heap.size gw gy wr.heap.size A0 c0 W2 y x (blk_below K1.out hb2) (blk_below K2.out hb2) (blk_below KY.out hb2) (blk_below KX.out hb) (Kd.C_below (Kd.C_below HR0.out HB.out) hb2) P1.out P2.out (by have := HM.out; omega) (by have := HN.out; omega) r c hr hc
            · rintro e_ w2 ⟨v, rfl, hrow, hb⟩
              have hb2 : Below wr.heap.size wr w2 := Below.trans (below_alloc (Below.refl _ _) _) (hb.mono (by rw [World.size_alloc]; omega))
              have HB2 := Aside0.mk hb2
              have HROW := Aside0.mk (Kd.R_lower (Kd.R_mono (ok' := fun k => wr.heap.size ≤ k) (Kd.R_bound hrow) (fun k hk => by have := hk.2.1; rw [World.size_alloc] at this; omega)) (show w.heap.size ≤ (wr.alloc (Obj.cells #[Value.int IntKind.i64 (x : Int)] 3)).heap.size by rw [World.size_alloc]; omega))
              have HOLD := Aside0.mk (Kd.S_mono (ok' := fun k => gw < k ∧ ¬ wr.heap.size ≤ k) (Kd.S_old HO.out hb2) (fun k hk => ⟨hk.1, Nat.not_le.2 hk.2⟩))
              have HB3 := Aside0.mk (show Below w.heap.size w w2 from Below.trans HB.out (hb2.mono HB.out.size))
              have HNE := Aside0.mk (show ∀ k, wr.heap.size ≤ k → gw < k ∧ some k ≠ (Value.slice A7 out.length c7).ownBlock from fun k hk => ⟨by omega, fun e => absurd (Kd.S_lt HO.out k e.symm) (by omega)⟩)
              have hsz : wr.heap.size ≤ w2.heap.size := hb2.size
              obtain ⟨Ar, cr, er⟩ := Kd.R_slice hrow
              rw [planeM_len] at er
              subst er
              have J1 := Aside0.mk (blk_below K1.out hb2)
              have J2 := Aside0.mk (blk_below K2.out hb2)
              have JY := Aside0.mk (blk_below KY.out hb2)
              have N1 := Aside0.mk (show some w.heap.size ≠ (Value.slice A7 out.length c7).ownBlock from fun e => absurd (S_ok HO.out _ e.symm) (by omega))
              have N2 := Aside0.mk (show some gw ≠ (Value.slice A7 out.length c7).ownBlock from fun e => absurd (S_ok HO.out _ e.symm) (by omega))
              have NY := Aside0.mk (Kd.R_ne (Kd.S_R HO.out) KY.out (by decide))
              clear hrow hb hb2
              go_wp2_with (first | ((with_reducible refine gate_builtin (b := .append) (xs := #[.tmp 21, .tmp 24]) rfl ?_); at_builtin; refine Kd.S_append (Kd.slice 3 (Kd.int .i64)) (w0 := w) w.heap.size rfl (.tmp 21) (.tmp 24) 36 22 (.slice none 0 0) 24 rfl Try.underlying36 info22 rfl (by decide) (by omega) _ out (planeM 8 8 (cutG l0 a1 y x)) [.slice Ar 64 cr] (fun k => gw < k) (fun k => wr.heap.size ≤ k) rfl rfl ⟨_, rfl, HROW.out⟩ HNE.out (fun k hk => by omega) HOLD.out HB3.out HB3.out.size (by omega) ?_; intro v8 w3 ho hb hg hat; have HO2 := Aside0.mk ho; have HB4 := Aside0.mk hb; have HG := Aside0.mk hg; clear ho hb hg hat))
              go_roundw
              case rel => exact ⟨x + 1, by go_num, by omega, ⟨blk_grown J1.out HG.out N1.out, blk_grown J2.out HG.out N2.out, HB4.out, by rw [cutRow_succ, ← List.append_assoc, ← HOUT.out]; exact HO2.out⟩, ⟨blk_grown JY.out HG.out NY.out⟩⟩
              case measure => simp [intOf]; omega
          · obtain rfl : x = n := by omega
            rw [← cutM_succ] at ho
            have HK3 := Aside0.mk (show CutKeep w wr w.heap.size gw A0 c0 l0 a1 (fun k => gw < k) _ (cutM l0 a1 x (y + 1)) from ⟨k1, k2, hb, ho⟩)
            obtain ⟨A7, c7, e7⟩ := Kd.R_slice (Kd.S_R ho)
            subst e7
            clear k1 k2 hb ho HK
            go_wp2
            go_roundw
            case rel => exact ⟨y + 1, by go_num, by omega, HK3⟩
            case measure => simp [intOf]; omega
      · obtain rfl : y = m := by omega
        obtain ⟨A7, c7, e7⟩ := Kd.R_slice (Kd.S_R HO.out)
        subst e7
        go_wp2
        go_ret
        refine ⟨_, rfl, ?_, HB.out⟩
        rw [← HH.out]
        exact Kd.S_mono HO.out (fun _ _ => trivial)
  · cases h

end Go.Proofs.Ytcjjmfpkhhdmlaa.G
