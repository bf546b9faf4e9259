-- Written by gp.py (a program of this session's, over the kit's print). Not trusted: Lean checks it.
import Derived.Test.YtnknolppoeacbaaG0h
import Derived.Test.YtnknolppoeacbaaG29
import Derived.Test.YtnknolppoeacbaaGPack
import Derived.Test.YtnknolppoeacbaaGPacked
import Derived.Test.YtnknolppoeacbaaGReader
import Derived.StillTailTactics
namespace Go.Proofs.Ytnknolppoeacbaa.G
open Go.RowKit Go.Proofs.YtnknolppoeacbaaW.PrintWords Go.Proofs.YtnknolppoeacbaaW.PrintLast Go.Proofs.YtnknolppoeacbaaW.PrintMore
attribute [local go_sem] max2_int min2_int max_two min_two max_three min_three max_four min_four   -- for this text's walks alone
set_option linter.unusedVariables false
set_option linter.unusedSimpArgs false

/-! ### impl_PackBits: function 26 -/
--import Derived.StillTailTactics
/-- the bits of fields -/
def allBits : List S46 → List Bool
  | [] => []
  | x :: l => bitsN x.f0.toNat x.f1 ++ allBits l
theorem allBits_app (a b : List S46) : allBits (a ++ b) = allBits a ++ allBits b := by
  induction a with
  | nil => rfl
  | cons x a ih => simp only [List.cons_append, allBits, ih, List.append_assoc]
theorem allBits_len (l : List S46) (h : l.all fOk = true) : ((allBits l).length : Int) = sumF l := by
  induction l with
  | nil => rfl
  | cons x l ih =>
    rw [List.all_cons, Bool.and_eq_true] at h
    have h1 := h.1
    simp only [fOk, Bool.and_eq_true, decide_eq_true_eq] at h1
    have := ih h.2
    simp only [allBits, sumF, List.length_append, bitsN_length]
    omega
theorem allBits_le (m : List S46) (h : m.all fOk = true) : (allBits m).length ≤ 16 * m.length := by
  induction m with
  | nil => exact Nat.le_refl _
  | cons x m ih =>
    rw [List.all_cons, Bool.and_eq_true] at h
    have h1 := h.1
    simp only [fOk, Bool.and_eq_true, decide_eq_true_eq] at h1
    have := ih h.2
    simp only [allBits, List.length_append, bitsN_length, List.length_cons]
    omega
theorem allBits_take (l : List S46) (h : l.all fOk = true) (i : Nat) : (allBits (l.take i)).length ≤ 16 * i := by
  have h1 := allBits_le (l.take i) (by rw [List.all_eq_true] at h ⊢; exact fun x hx => h x (List.mem_of_mem_take hx))
  have h2 : (l.take i).length ≤ i := by simp; omega
  omega
theorem putM_field (B : List Bool) (n v : Int) (h0 : 0 ≤ n) (h1 : n ≤ 16) (h2 : 0 ≤ v) (h3 : v < 2 ^ n.toNat) : flushM 2 (stateOf B).1 ((stateOf B).2.1 * 2 ^ n.toNat + v) ((stateOf B).2.2 + n) = stateOf (B ++ bitsN n.toNat v) := by
  have := putM_state B n.toNat v (by omega) h2 h3
  unfold putM at this
  rw [Int.toNat_natCast, Int.toNat_of_nonneg h0] at this
  exact this
theorem ones_k (k : Nat) : (0 : Int) ≤ 2 ^ k - 1 ∧ (2 : Int) ^ k - 1 < 2 ^ ((k : Int)).toNat := by
  have := pow_one k
  rw [Int.toNat_natCast]
  generalize (2 : Int) ^ k = z at this ⊢
  omega
theorem mask_k (k : Nat) (hk : k ≤ 16) : IntKind.i64.wrap (IntKind.i64.wrap ((2 : Int) ^ min k 64) - 1) = 2 ^ k - 1 := by
  have e2 := pow_16 (k : Int) (by omega) (by omega)
  rw [Int.toNat_natCast] at e2
  rw [Nat.min_eq_left (by omega)]
  generalize (2 : Int) ^ k = z at e2 ⊢
  rw [IntKind.wrap_i64, IntKind.wrap_i64]; omega
def impl_PackBits.f (l0 : List S46) : Option (List Int) := if l0.length ≤ 1048576 then some (if fldOk l0 then packM (allBits l0) else []) else none
def PackRel (w : World) (gb gm go : Nat) (l0 : List S46) (v16 : Value) (w' : World) : Prop :=
  ∃ i : Nat, v16 = .int .i64 i ∧ i ≤ l0.length ∧ Aside0 (Below w.heap.size w w') ∧ Aside0 (PK w w' gb gm go (stateOf (allBits (l0.take i))).1 (stateOf (allBits (l0.take i))).2.1 (stateOf (allBits (l0.take i))).2.2)
theorem PK.below {w0 W W1 : World} {gb gm go : Nat} {out : List Int} {q m : Int} (h : PK w0 W gb gm go out q m) (hb : Below W.heap.size W W1) : PK w0 W1 gb gm go out q m := by
  obtain ⟨k1, k2, hne, g1, g2, g3, v, k3, hR⟩ := h
  exact ⟨blk_below k1 hb, blk_below k2 hb, hne, g1, g2, g3, v, blk_below k3 hb, Kd.R_below hR hb⟩
set_option maxRecDepth 100000 in
set_option maxHeartbeats 4000000 in
theorem impl_PackBits.calls (A0 : Option Addr) (c0 : Nat) (l0 : List S46) (r : List Int) (w : World) (hr0 : Kd.C k46 w A0 l0.length l0) (hc0 : l0.length ≤ c0) (h : impl_PackBits.f l0 = some r) :
    Calls Try.prog 26 #[.slice A0 l0.length c0] w fun e w' => ∃ v0_ : Value, e = .returned (v0_) ∧ Kd.R (Kd.int .u8) 5 w' w.heap.size (fun _ => True) v0_ r ∧ Below w.heap.size w w' := by
  unfold impl_PackBits.f at h
  split at h
  · rename_i hl
    have HH := Aside0.mk (Option.some.inj h)
    obtain ⟨kf, hkf⟩ := (impl_FieldsOk.ev l0 hl).rounds
    have HF := Aside0.mk hkf
    have HR0 := Aside0.mk hr0
    have HC0 := Aside0.mk hc0
    clear h hkf hr0 hc0
    cases hok : fldOk l0
    · rw [hok] at HF HH
      go_enter Try.func26, Try.ntmps26
      go_wp2_with fail
      refine (impl_FieldsOk.calls kf _ _ l0 false _ HR0.out HC0.out HF.out).mono ?_
      rintro e_ w_ ⟨rfl, hb⟩
      have HB := Aside0.mk hb
      clear hb
      go_wp2
      go_ret
      refine ⟨_, rfl, ?_, HB.out⟩
      rw [← HH.out]
      exact Kd.R_nil _ _ _ _ _
    · rw [hok] at HF HH
      have HOK := Aside0.mk hok
      clear hok
      go_enter Try.func26, Try.ntmps26
      go_wp2_with fail
      refine (impl_FieldsOk.calls kf _ _ l0 true _ HR0.out HC0.out HF.out).mono ?_
      rintro e_ w_ ⟨rfl, hb⟩
      have HB0 := Aside0.mk hb
      clear hb
      go_wp2_with (first | ((with_reducible refine gate_dst (N := 12) rfl ?_); refine Kd.R_lit (w0 := w) (Kd.int .u8) w.heap.size 5 ?hg (N := 12) ?hd (xs := ([] : List Int)) (inner := []) (ok := fun _ => True) (okp := fun _ => True) ?hr ?hp (fun _ hk => hk) trivial HB0.out HB0.out.size (by simp) ?_; (case hd => rfl); (case hg => rfl); (case hr => first | (go_simp; done) | (go_simp; rfl)); (case hp => exact (Reps.none _ _)); intro v7 w1 ho hb hg_ hnew_; obtain ⟨A7, c7, e7⟩ := Kd.R_slice ho; subst e7; have HO := Aside0.mk ho; have HB := Aside0.mk hb; have HG := Aside0.mk hg_; clear ho hb hg_ hnew_))
      generalize hW : ((w1.alloc (Obj.cells #[Value.slice A7 0 c7] 27)).alloc (Obj.cells #[Value.int IntKind.i64 0] 3)).alloc (Obj.cells #[Value.int IntKind.i64 0] 3) = W1
      have g0 : w.heap.size ≤ w1.heap.size := HB.out.size
      have k3 : W1.heap[w1.heap.size]? = some (.cells #[.slice A7 0 c7] 27 (0, 0)) := by rw [← hW]; exact blk_alloc (blk_alloc (blk_new _ _) _) _
      have k1 : W1.heap[w1.heap.size + 1]? = some (.cells #[.int .i64 0] 3 (0, 0)) := by
        have := blk_alloc (blk_new (w1.alloc (Obj.cells #[Value.slice A7 0 c7] 27)) (Obj.cells #[Value.int IntKind.i64 0] 3)) (Obj.cells #[Value.int IntKind.i64 0] 3)
        rw [hW] at this; simpa using this
      have k2 : W1.heap[w1.heap.size + 1 + 1]? = some (.cells #[.int .i64 0] 3 (0, 0)) := by
        have := blk_new ((w1.alloc (Obj.cells #[Value.slice A7 0 c7] 27)).alloc (Obj.cells #[Value.int IntKind.i64 0] 3)) (Obj.cells #[Value.int IntKind.i64 0] 3)
        rw [hW] at this; simpa using this
      have HB1 := Aside0.mk (show Below w1.heap.size w1 W1 by rw [← hW]; exact below_alloc (below_alloc (below_alloc (Below.refl _ _) _) _) _)
      clear hW
      have HPK := Aside0.mk (show PK w W1 (w1.heap.size + 1) (w1.heap.size + 1 + 1) w1.heap.size [] 0 0 from ⟨k1, k2, by omega, by omega, by omega, by omega, _, k3, Kd.R_below HO.out HB1.out⟩)
      have HB2 := Aside0.mk (show Below w.heap.size w W1 from Below.trans HB.out (HB1.out.mono g0))
      clear k1 k2 k3 HO HB1 HG
      generalize w1.heap.size = go at HPK g0 ⊢
      generalize go + 1 = gb at HPK ⊢
      generalize gb + 1 = gm at HPK ⊢
      clear g0 HB HB0
      go_loopw [16] (fun v16 w' => PackRel w gb gm go l0 v16 w') (fun v16 w' => l0.length - (intOf v16).toNat)
      case atStart => exact ⟨0, rfl, Nat.zero_le _, HB2, ⟨by rw [List.take_zero]; exact HPK.out⟩⟩
      case round =>
        obtain ⟨i, rfl, hi, HBr, HP⟩ := hrel
        by_cases hlt : i < l0.length
        · obtain ⟨ad, rfl, x0, x1⟩ := at_T46 HR0.out (i : Int) (by omega) (by omega)
          rw [Int.toNat_natCast, rdF_nat l0 i hlt] at x0 x1
          replace x0 := (HBr.out.cell (World.block_lt_of_cell? w _ x0)).trans x0
          replace x1 := (HBr.out.cell (World.block_lt_of_cell? w _ x1)).trans x1
          have hall : l0.all fOk = true := by have := HOK.out; unfold fldOk at this; rw [Bool.and_eq_true] at this; exact this.1
          have hfi : fOk l0[i] = true := List.all_eq_true.1 hall _ (List.getElem_mem hlt)
          simp only [fOk, Bool.and_eq_true, decide_eq_true_eq] at hfi
          have hsl := allBits_take l0 hall i
          have HFI := Aside0.mk hfi
          have HPUT := Aside0.mk (putM_field (allBits (l0.take i)) l0[i].f0 l0[i].f1 hfi.1.1 hfi.1.2 hfi.2.1 (by omega))
          clear hfi hall
          go_wp2_with fail
          refine (put_calls w _ gb gm go _ _ _ l0[i].f0 l0[i].f1 (below_alloc HBr.out _) (PK.below HP.out (below_alloc (Below.refl _ _) _)) (stateOf_q0 _) (stateOf_q1 _) (stateOf_m _).1 (stateOf_m _).2 HFI.out.1.1 HFI.out.1.2 HFI.out.2.1 (by have := HFI.out.2.2; omega) (by rw [stateOf_len]; omega)).mono ?_
          rintro e_ w2 ⟨rfl, ⟨r_, hr, hpk⟩, hb⟩
          rw [HPUT.out] at hr
          subst hr
          have HPK2 := Aside0.mk hpk
          have HB3 := Aside0.mk hb
          clear hpk hb
          go_wp2
          go_roundw
          case rel =>
            refine ⟨i + 1, by go_num, by omega, HB3, ⟨?_⟩⟩
            rw [List.take_succ_eq_append_getElem hlt, allBits_app]
            have := HPK2.out
            simpa [allBits] using this
          case measure => simp [intOf]; omega
        · obtain rfl : i = l0.length := by omega
          have HP1 := Aside0.mk (show PK w wr gb gm go (stateOf (allBits l0)).1 (stateOf (allBits l0)).2.1 (stateOf (allBits l0)).2.2 by have := HP.out; rwa [List.take_length] at this)
          have HE := Aside0.mk (show (if True then packM (allBits l0) else []) = packM (allBits l0) from if_pos trivial)
          have hm : (stateOf (allBits l0)).2.2 = (((allBits l0).length % 8 : Nat) : Int) := rfl
          have HPM := Aside0.mk (fun h => packM_even (allBits l0) h)
          have HPF := Aside0.mk (fun h => packM_filled (allBits l0) h)
          have hall : l0.all fOk = true := by have := HOK.out; unfold fldOk at this; rw [Bool.and_eq_true] at this; exact this.1
          have hsl := allBits_le l0 hall
          clear HP hall
          generalize allBits l0 = B at HP1 HE HPM HPF hm hsl HH
          obtain ⟨k1, k2, hne, g1, g2, g3, vo, k3, hR⟩ := HP1.out
          have c2 := blk_cell k2 0
          have c3 := blk_cell k3 0
          simp at c2 c3
          have NE := Aside0.mk hne
          have HR := Aside0.mk hR
          rw [hm] at c2
          clear k1 k2 k3 hR hne
          by_cases h8 : B.length % 8 = 0
          · go_wp2
            go_ret
            refine ⟨_, rfl, ?_, HBr.out⟩
            have h5 := HR.out
            rw [HPM.out h8, ← HE.out, HH.out] at h5
            exact h5
          · obtain ⟨mm, hmm⟩ : ∃ mm : Nat, B.length % 8 = mm := ⟨_, rfl⟩
            obtain ⟨k, hk⟩ : ∃ k : Nat, k + mm = 8 := ⟨8 - mm, by omega⟩
            rw [hmm] at c2 hm h8 HPF
            have HM := Aside0.mk hm
            have HMM := Aside0.mk hmm
            clear hm hmm
            have h9 : 0 < (mm : Int) := by omega
            have e1 : IntKind.i64.wrap (8 - (mm : Int)) = (k : Int) := by rw [IntKind.wrap_i64]; omega
            have e2 := pow_16 (k : Int) (by omega) (by omega)
            rw [Int.toNat_natCast] at e2
            have HK := Aside0.mk hk
            clear hk
            go_wp2
            go_still_tail 7, (by kernel_rfl)
            change wpList _ _ _ _ _ wr.drew
            rw [mask_k k (by have := HK.out; omega)]
            clear e2
            have HPUT := Aside0.mk (putM_field B (k : Int) (2 ^ k - 1) (by omega) (by have := HK.out; omega) (ones_k k).1 (ones_k k).2)
            rw [Int.toNat_natCast] at HPUT
            rw [show 8 - mm = k by have := HK.out; omega] at HPF
            go_wp2_with fail
            refine (put_calls w _ gb gm go _ _ _ (k : Int) (2 ^ k - 1) (below_drew HBr.out) (PK.below HP1.out (below_drew (Below.refl _ _))) (stateOf_q0 _) (stateOf_q1 _) (stateOf_m _).1 (stateOf_m _).2 (by omega) (by have := HK.out; omega) (ones_k k).1 (ones_k k).2 (by rw [stateOf_len]; omega)).mono ?_
            rintro e_ w2 ⟨rfl, ⟨r_, hr, hpk⟩, hb⟩
            rw [Int.toNat_natCast, HPUT.out] at hr
            subst hr
            have HB3 := Aside0.mk hb
            obtain ⟨j1, j2, _, _, _, _, vo2, j3, hR⟩ := hpk
            have d3 := blk_cell j3 0
            simp at d3
            have HR2 := Aside0.mk hR
            clear j1 j2 j3 hR hb c2 c3 e1
            go_wp2
            go_ret
            refine ⟨_, rfl, ?_, HB3.out⟩
            have h5 := HR2.out
            rw [HPF.out (by omega), ← HE.out, HH.out] at h5
            exact h5
  · cases h

end Go.Proofs.Ytnknolppoeacbaa.G
