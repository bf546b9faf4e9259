-- Written by gp.py (a program of this session's, over the kit's print). Not trusted: Lean checks it.
import Derived.Test.YtcjjmfpkhhdmlaaG0h
import Derived.Test.YtcjjmfpkhhdmlaaG120
import Derived.Test.YtcjjmfpkhhdmlaaGBits
import Derived.Test.YtcjjmfpkhhdmlaaGCodes
import Derived.Test.YtcjjmfpkhhdmlaaGLib
import Derived.Test.YtcjjmfpkhhdmlaaGReader
import Derived.Maps.OwnSet
import Derived.Maps.Own
import Derived.DeepKeys4
import Derived.BigRegion
namespace Go.Proofs.Ytcjjmfpkhhdmlaa.G
open Go.RowKit Go.Proofs.YtcjjmfpkhhdmlaaW.PrintWords Go.Proofs.YtcjjmfpkhhdmlaaW.PrintLast Go.Proofs.YtcjjmfpkhhdmlaaW.PrintMore
attribute [local go_sem] max2_int min2_int max_two min_two max_three min_three max_four min_four   -- for this text's walks alone
set_option linter.unusedVariables false
set_option linter.unusedSimpArgs false

--import Derived.Maps.OwnSet
--import Derived.Maps.Own
--import Derived.DeepKeys4
--import Derived.BigRegion
/-! the program's decoder: a map by codes -/
section
open Go.Maps
theorem dlaid : laidOutB Try.prog = true := by kernel_rfl
theorem dwide : (match Try.prog.underlying 124 with | some (.array _ _) | some (.struct _) => true | _ => false) = true := by kernel_rfl
theorem drow : (124 : TypeId) < Try.prog.types.size := of_decide_eq_true (by kernel_rfl)
set_option maxRecDepth 100000 in
theorem dlaw : Keyed Try.prog 124 := Keyed.of_law (deep_law_laid dlaid (m := 3) (by omega) drow (by kernel_rfl) dwide)
theorem dzero (w : World) : (zeroValue 3).run Try.prog w = .ok (.int .i64 0) w := by kernel_rfl
theorem dcells : Try.prog.cellsOf 124 = 2 := by kernel_rfl
theorem dcell1 : Try.prog.cellsOf 3 = 1 := by kernel_rfl
theorem dkey : Try.prog.keyType 124 = true := by kernel_rfl
/-- what a code reads as -/
def keyF (a b : Int) : Lit := .string (keyBytes [.int .i64 a, .int .i64 b])
theorem keyF_of (a b : Int) (ha : (Lit.int .i64 a).wf = true) (hb : (Lit.int .i64 b).wf = true) : keyOf Try.prog 124 (.agg #[.int .i64 a, .int .i64 b]) = some (keyF a b) := by
  have h1 : (Value.agg #[.int .i64 a, .int .i64 b]).formed Try.prog 124 = true := by
    simp [Value.formed, Try.underlying124, dcells]
  have h2 : ∀ m, Try.prog.keyLits (m + 2) 124 [.int .i64 a, .int .i64 b] = some [.int .i64 a, .int .i64 b] := by
    intro m
    unfold Program.keyLits
    rw [Try.underlying124]
    simp [dcells, dcell1, Program.keyLits, Try.underlying3, ha, hb]
  obtain ⟨m, hm⟩ : ∃ m, Try.prog.types.size + 1 = m + 2 := ⟨Try.prog.types.size - 1, by have h : @LT.lt Nat _ 124 Try.prog.types.size := drow; omega⟩
  unfold keyOf
  rw [Try.underlying124]
  simp only [dkey, h1, Bool.and_self, if_true]
  rw [hm, show (Value.agg #[.int .i64 a, .int .i64 b]).cells.toList = [.int .i64 a, .int .i64 b] from rfl, h2 m]
  rfl
theorem keyF_inj {a b c d : Int} (ha : (Lit.int .i64 a).wf = true) (hb : (Lit.int .i64 b).wf = true) (hc : (Lit.int .i64 c).wf = true) (hd : (Lit.int .i64 d).wf = true) (h : keyF a b = keyF c d) : a = c ∧ b = d := by
  have := dlaw.inj (keyF_of a b ha hb) (h ▸ keyF_of c d hc hd)
  simpa using this
/-- what the map tells of codes of a length above 0: the last of the first n symbols that has it -/
def KnowsD (codes : List S124) (n : Nat) (D : DataW Unit) : Prop :=
  IsMap D ∧ ∀ a b : Int, 1 ≤ a → (Lit.int .i64 a).wf = true → (Lit.int .i64 b).wf = true → Maps.has D (keyF a b) = (lastS codes a b n).isSome ∧ ∀ s, lastS codes a b n = some s → D.atKey (keyF a b) (.lit (.int .i64 0)) = .lit (.int .i64 (s : Int))
theorem knows_start (codes : List S124) : KnowsD codes 0 (.map []) := ⟨isMap_empty, fun a b _ _ _ => ⟨rfl, fun s h => by simp [lastS] at h⟩⟩
theorem knows_skip {codes : List S124} {n : Nat} {D : DataW Unit} (h : KnowsD codes n D) (h0 : (codes.getD n z124).f0 ≤ 0) : KnowsD codes (n + 1) D := by
  refine ⟨h.1, fun a b ha wa wb => ?_⟩
  have e : lastS codes a b (n + 1) = lastS codes a b n := by
    simp only [lastS]; rw [if_neg (fun hc => by omega)]
  rw [e]
  exact h.2 a b ha wa wb
theorem knows_put {codes : List S124} {n : Nat} {D : DataW Unit} (h : KnowsD codes n D) (a0 b0 : Int) (ea : (codes.getD n z124).f0 = a0) (eb : (codes.getD n z124).f1 = b0) (w0 : (Lit.int .i64 a0).wf = true) (w1 : (Lit.int .i64 b0).wf = true) :
    KnowsD codes (n + 1) (D.put (keyF a0 b0) (.lit (.int .i64 (n : Int)))) := by
  refine ⟨h.1.put _ _, fun a b ha wa wb => ?_⟩
  by_cases hc : a0 = a ∧ b0 = b
  · obtain ⟨rfl, rfl⟩ := hc
    have e : lastS codes a0 b0 (n + 1) = some n := by simp only [lastS]; rw [if_pos ⟨ea, eb⟩]
    rw [e]
    refine ⟨has_put_same h.1 (dlaw.key (keyF_of a0 b0 w0 w1)) _, fun s hs => ?_⟩
    cases hs
    exact atKey_put_same h.1 (dlaw.key (keyF_of a0 b0 w0 w1)) _ _
  · have e : lastS codes a b (n + 1) = lastS codes a b n := by simp only [lastS]; rw [if_neg (by rw [ea, eb]; exact hc)]
    have hne : keyF a b ≠ keyF a0 b0 := fun hk => by
      have := keyF_inj wa wb w0 w1 hk
      exact hc ⟨this.1.symm, this.2.symm⟩
    rw [e, has_put_other hne, atKey_put_other hne]
    exact h.2 a b ha wa wb
end
/-- the decoder in memory -/
def DecK (W : World) (B : Nat) (codes : List S124) (n : Nat) : Prop := ∃ D : DataW Unit, W.ownsMap Try.prog 124 (Go.plainElem Try.prog 3) B n D ∧ KnowsD codes n D
theorem DecK.lt {W : World} {B : Nat} {codes : List S124} {n : Nat} (h : DecK W B codes n) : B < W.heap.size := by
  obtain ⟨D, h1, _⟩ := h
  exact h1.lt
theorem DecK.below {W W1 : World} {B : Nat} {codes : List S124} {n : Nat} (h : DecK W B codes n) (hb : Below W.heap.size W W1) : DecK W1 B codes n := by
  obtain ⟨D, h1, h2⟩ := h
  exact ⟨D, h1.kept (grown_of_below hb none) (by simp), h2⟩
theorem DecK.grown {W W1 : World} {B : Nat} {codes : List S124} {n : Nat} {row : Option Nat} (h : DecK W B codes n) (hg : W.grownBy W1 row) (hne : some B ≠ row) : DecK W1 B codes n := by
  obtain ⟨D, h1, h2⟩ := h
  exact ⟨D, h1.kept hg hne, h2⟩
theorem wf_small (x : Int) (h0 : 0 ≤ x) (h1 : x ≤ 4611686018427387904) : (Lit.int .i64 x).wf = true := by
  simp only [Lit.wf, Bool.and_eq_true, decide_eq_true_eq]
  have h1 : IntKind.i64.min = -9223372036854775808 := rfl
  have h2 : IntKind.i64.max = 9223372036854775807 := rfl
  omega
set_option maxRecDepth 100000 in
set_option maxHeartbeats 4000000 in
theorem newDecoder_calls (A : Option Addr) (c : Nat) (lens : List Int) (w : World) (hr : Kd.C (Kd.int .i64) w A lens.length lens) (hc : lens.length ≤ c) (hl : lens.length ≤ 4611686018427387903) :
    Calls Try.prog 82 #[.slice A lens.length c] w fun e w' => e = .returned (.map (some w.heap.size)) ∧ DecK w' w.heap.size (codesM lens) (codesM lens).length ∧ Below w.heap.size w w' := by
  have HR := Aside0.mk hr
  have HC := Aside0.mk hc
  obtain ⟨k, hk⟩ := (impl_CodesOf.ev lens hl).rounds
  have HK := Aside0.mk hk
  have HIN := Aside0.mk (codes_in lens)
  have hsm := codesM_small lens
  clear hr hc hk
  have hmm := @run_makeMap Try.prog
  go_enter Try.func82, Try.ntmps82
  go_wp2_with fail
  clear hmm
  have hown0 := World.ownsMap_made (H := Unit) w Try.prog 124 (Go.plainElem Try.prog 3)
  have hB0 := below_alloc (Below.refl w.heap.size w) (Obj.map #[] 0)
  have hD0 := Aside0.mk (show DecK (w.alloc (Obj.map #[] 0)) w.heap.size (codesM lens) 0 from ⟨_, hown0, knows_start _⟩)
  have HB0 := Aside0.mk hB0
  have hs0 : w.heap.size + 1 ≤ (w.alloc (Obj.map #[] 0)).heap.size := by simp
  generalize w.alloc (Obj.map #[] 0) = W0 at hD0 HB0 hs0 ⊢
  clear hown0 hB0
  refine (impl_CodesOf.calls k A c lens (codesM lens) _ (Kd.C_below HR.out HB0.out) HC.out HK.out).mono ?_
  rintro e_ w1 ⟨v, rfl, ho, hb⟩
  obtain ⟨A1, c1, e1⟩ := Kd.R_slice ho
  subst e1
  have HO := Aside0.mk (Kd.R_lower ho hs0)
  have HD := Aside0.mk (hD0.out.below hb)
  have HB := Aside0.mk (Below.trans HB0.out (hb.mono HB0.out.size))
  clear ho hb hD0
  generalize hcs : codesM lens = cs at HO HD HIN hsm ⊢
  have HCS := Aside0.mk hcs
  clear hcs
  go_wp2
  go_loopw [10] (fun v10 w' => ∃ i : Nat, v10 = .int .i64 i ∧ i ≤ cs.length ∧ Aside0 (Kd.R k124 124 w' (w.heap.size + 1) (fun _ => True) (.slice A1 cs.length c1) cs) ∧ Aside0 (DecK w' w.heap.size cs i) ∧ Aside0 (Below w.heap.size w w')) (fun v10 w' => cs.length - (intOf v10).toNat)
  case atStart => exact ⟨0, rfl, by omega, HO, HD, HB⟩
  case round =>
    clear HO HD HB
    obtain ⟨i, rfl, hi, HO, HD, HB⟩ := hrel
    by_cases hlt : i < cs.length
    · obtain ⟨ad, e1, hx0, hx1⟩ := at_T124 (Kd.R_reads' HO.out).2.2 (i : Int) (by omega) (by omega)
      cases e1
      rw [Int.toNat_natCast] at hx0 hx1
      have hin := HIN.out i
      have hel : rd_T124 cs i = cs.getD i z124 := by simp [rd_T124]
      rw [hel] at hx0 hx1
      obtain ⟨a0, ha0⟩ : ∃ a0, a0 = (cs.getD i z124).f0 := ⟨_, rfl⟩
      obtain ⟨b0, hb0⟩ : ∃ b0, b0 = (cs.getD i z124).f1 := ⟨_, rfl⟩
      rw [← ha0] at hx0 hin
      rw [← hb0] at hx1 hin
      have HA0 := Aside0.mk ha0
      have HB0' := Aside0.mk hb0
      obtain ⟨i1, i2, i3, i4⟩ := hin
      clear hel ha0 hb0
      go_upto_region 5 with (fail)
      have hq := blk_new wr (Obj.cells #[.int .i64 a0, .int .i64 b0] 124)
      have HO2 := Aside0.mk (Kd.R_below HO.out (below_alloc (Below.refl wr.heap.size wr) (Obj.cells #[.int .i64 a0, .int .i64 b0] 124)))
      have HD2 := Aside0.mk (HD.out.below (below_alloc (Below.refl wr.heap.size wr) (Obj.cells #[.int .i64 a0, .int .i64 b0] 124)))
      have HB2 := Aside0.mk (below_alloc HB.out (Obj.cells #[.int .i64 a0, .int .i64 b0] 124))
      generalize wr.heap.size = gq at hq ⊢
      generalize wr.alloc (Obj.cells #[.int .i64 a0, .int .i64 b0] 124) = W2 at hq HO2 HD2 HB2 ⊢
      have q0 := blk_cell hq 0
      have q1 := blk_cell hq 1
      simp at q0 q1
      clear hq hx0 hx1 HO HD HB
      by_cases hp : 0 < a0
      · obtain ⟨D, hown, hkn⟩ := HD2.out
        have HKN := Aside0.mk hkn
        have HOWN := Aside0.mk hown
        clear hkn hown
        have wfa := Aside0.mk (wf_small a0 (by omega) (by omega))
        have wfb := Aside0.mk (wf_small b0 (by omega) (by omega))
        have wfi := Aside0.mk (wf_small (i : Int) (by omega) (by omega))
        go_wp2_with (first | (at_mapUpdate; go_loud (refine Go.wpList_mapUpdate_own _ rfl _ _ _ 96 rfl 124 3 dlaw Try.underlying96 _ w.heap.size i D rfl HOWN.out (by unfold maxLen; omega) _ _ _ rfl rfl (keyF_of a0 b0 wfa.out wfb.out) _ [] (Go.plainElem_int Try.underlying3 wfi.out) ?_; intro w3 hown3 hgrow3); have HOWN3 := Aside0.mk hown3; have HG3 := Aside0.mk hgrow3; clear hown3 hgrow3))
        go_roundw
        case rel =>
          exact ⟨i + 1, by go_num, by omega, ⟨Kd.R_grown1 HO2.out rfl HG3.out (fun e => by have := Kd.R_base HO2.out _ e.symm; omega)⟩, ⟨⟨_, HOWN3.out, knows_put HKN.out a0 b0 HA0.out.symm HB0'.out.symm wfa.out wfb.out⟩⟩, ⟨pw_below_grown HB2.out _ HB2.out.size HG3.out (fun k hk => by cases hk; exact Nat.le_refl _)⟩⟩
        case measure => simp [intOf]; omega
      · have HKN := HD2
        clear HD2
        go_wp2
        go_roundw
        case rel =>
          obtain ⟨D, hown, hkn⟩ := HKN.out
          exact ⟨i + 1, by go_num, by omega, HO2, ⟨⟨D, hown.mono (by omega), knows_skip hkn (by rw [← HA0.out]; omega)⟩⟩, HB2⟩
        case measure => simp [intOf]; omega
    · obtain rfl : i = cs.length := by omega
      go_wp2
      go_ret
      exact ⟨rfl, by rw [HCS.out]; exact HD.out, HB.out⟩
theorem DecK.keep {W W1 : World} {B g : Nat} {codes : List S124} {n : Nat} (h : DecK W B codes n) (hk : KeepBut W W1 g none) (hne : B ≠ g) : DecK W1 B codes n := by
  have hlt := h.lt
  obtain ⟨D, ⟨es, clock, h1, h2⟩, h3⟩ := h
  exact ⟨D, ⟨es, clock, (hk.2 B hlt hne (by simp)).trans h1, h2⟩, h3⟩
/-- the reader stands at bit p -/
def RdK (w0 w : World) (g : Nat) (b : List Int) (p : Nat) : Prop := ∃ j m : Nat, BR w0 w g (b.drop j) (valB b p m) m ∧ p + m = 8 * j ∧ j ≤ b.length ∧ m ≤ 23
theorem RdK.below {w0 W W1 : World} {g : Nat} {b : List Int} {p : Nat} (h : RdK w0 W g b p) (hb : Below W.heap.size W W1) : RdK w0 W1 g b p := by
  obtain ⟨j, m, h1, h2⟩ := h
  exact ⟨j, m, h1.below hb, h2⟩
theorem RdK.lt {w0 W : World} {g : Nat} {b : List Int} {p : Nat} (h : RdK w0 W g b p) : g < W.heap.size := by
  obtain ⟨j, m, ⟨A, c, h1, _⟩, _⟩ := h
  exact blk_lt h1
theorem RdK.ge {w0 W : World} {g : Nat} {b : List Int} {p : Nat} (h : RdK w0 W g b p) : w0.heap.size ≤ g := by
  obtain ⟨j, m, ⟨A, c, _, h2, _⟩, _⟩ := h
  exact h2
theorem RdK.far {w0 W W1 : World} {g g' : Nat} {b : List Int} {p : Nat} (h : RdK w0 W g b p) (hk : KeepBut W W1 g' none) (hne : g ≠ g') : RdK w0 W1 g b p := by
  have hlt := h.lt
  obtain ⟨j, m, ⟨A, c, h1, h3⟩, h2⟩ := h
  exact ⟨j, m, ⟨A, c, (hk.2 g hlt hne (by simp)).trans h1, h3⟩, h2⟩
theorem RdK.ne {w0 W : World} {g g' : Nat} {b : List Int} {p : Nat} {t : Nat} {cs : Array Value} (h : RdK w0 W g b p) (hq : W.heap[g']? = some (.cells cs t (0, 0))) (ht : t ≠ 100) : g ≠ g' := by
  obtain ⟨j, m, ⟨A, c, h1, _⟩, _⟩ := h
  exact blk_ne h1 hq (fun e => ht e.symm)
theorem DecK.ne {w0 W : World} {B g : Nat} {codes : List S124} {n : Nat} {b : List Int} {p : Nat} (h : DecK W B codes n) (r : RdK w0 W g b p) : B ≠ g := by
  obtain ⟨D, ⟨es, clock, h1, _⟩, _⟩ := h
  obtain ⟨j, m, ⟨A, c, h2, _⟩, _⟩ := r
  intro e
  rw [e, h2] at h1
  cases h1
theorem DecK.ne2 {W : World} {B g : Nat} {codes : List S124} {n : Nat} {cs : Array Value} {ty : Nat} (h : DecK W B codes n) (r : W.heap[g]? = some (.cells cs ty (0, 0))) : B ≠ g := by
  obtain ⟨D, ⟨es, clock, h1, _⟩, _⟩ := h
  intro e
  rw [e, r] at h1
  cases h1
theorem RdK.start {w0 W : World} {g : Nat} {b : List Int} {A : Option Addr} {c : Nat} (h1 : W.heap[g]? = some (.cells #[.slice A b.length c, .int .i64 0, .int .i64 0] 100 (0, 0))) (hg : w0.heap.size ≤ g) (hC : Kd.C (Kd.int .u8) w0 A b.length b) (hc : b.length ≤ c) : RdK w0 W g b 0 :=
  ⟨0, 0, ⟨A, c, h1, hg, hC, hc⟩, rfl, Nat.zero_le _, by omega⟩
theorem take1_yes (w0 w : World) (g : Nat) (b : List Int) (p : Nat) (hB : Below w0.heap.size w0 w) (h : RdK w0 w g b p) (hbb : ∀ x ∈ b, 0 ≤ x ∧ x ≤ 255) (hp : p < 8 * b.length) :
    Calls Try.prog 147 #[.pointer (some ⟨g, 0, none⟩), .int .i64 1] w fun e w' => e = .returned (.tuple #[.int .i64 (bitAt b p), .bool true]) ∧ RdK w0 w' g b (p + 1) ∧ Below w0.heap.size w0 w' ∧ KeepBut w w' g none := by
  obtain ⟨j, m, h1, h2, h3, h4⟩ := h
  have hf := fillM_val b hbb p 1 _ j m rfl h2 h3
  obtain ⟨j2, m2, e1, e2, e3, e4⟩ := hf.1 (by omega)
  have hr := valB_range b p m
  refine (take_calls w0 w g (b.drop j) (valB b p m) m 1 _ hB h1 hr.1 (by simpa using hr.2) (by omega) (by omega) (by omega) (by omega) (fun x hx => hbb x (List.mem_of_mem_drop hx)) e1).mono ?_
  rintro e w' ⟨b1, b2, b3, b4, b5, b6, b7⟩
  have ev := valB_add b p 1 (m2 - 1)
  rw [show 1 + (m2 - 1) = m2 by omega] at ev
  have hr2 := valB_range b (p + 1) (m2 - 1)
  have hpw := pow_one (m2 - 1)
  have hv1 : valB b p 1 = bitAt b p := by simp [valB]
  have d1 : valB b p m2 / 2 ^ (m2 - 1) = bitAt b p := by
    rw [ev, Int.add_comm, Int.add_mul_ediv_right _ _ (by omega), Int.ediv_eq_zero_of_lt hr2.1 hr2.2, Int.zero_add, hv1]
  have d2 : valB b p m2 % 2 ^ (m2 - 1) = valB b (p + 1) (m2 - 1) := by
    rw [ev, Int.add_comm, Int.add_mul_emod_self_right, Int.emod_eq_of_lt hr2.1 hr2.2]
  rw [show ((m2 : Int) - 1).toNat = m2 - 1 by omega, d1] at b3
  rw [show ((m2 : Int) - 1).toNat = m2 - 1 by omega, d2, show (m2 : Int) - 1 = ((m2 - 1 : Nat) : Int) by omega] at b4
  exact ⟨b3, ⟨j2, m2 - 1, b4, by omega, e3, by omega⟩, b1, b2⟩
theorem take1_no (w0 w : World) (g : Nat) (b : List Int) (p : Nat) (hB : Below w0.heap.size w0 w) (h : RdK w0 w g b p) (hbb : ∀ x ∈ b, 0 ≤ x ∧ x ≤ 255) (hp : ¬ p < 8 * b.length) :
    Calls Try.prog 147 #[.pointer (some ⟨g, 0, none⟩), .int .i64 1] w fun e w' => e = .returned (.tuple #[.int .i64 0, .bool false]) ∧ Below w0.heap.size w0 w' ∧ KeepBut w w' g none := by
  obtain ⟨j, m, h1, h2, h3, h4⟩ := h
  have hf := fillM_val b hbb p 1 _ j m rfl h2 h3
  have hr := valB_range b p m
  refine (take_calls w0 w g (b.drop j) (valB b p m) m 1 _ hB h1 hr.1 (by simpa using hr.2) (by omega) (by omega) (by omega) (by omega) (fun x hx => hbb x (List.mem_of_mem_drop hx)) (hf.2 (by omega))).mono ?_
  rintro e w' ⟨b1, b2, b3⟩
  exact ⟨b3, b1, b2⟩
def ReadPost (w0 : World) (g B : Nat) (codes : List S124) (b : List Int) (R : Option (Nat × Nat)) (w : World) (e : Ending) (w' : World) : Prop :=
  Below w0.heap.size w0 w' ∧ KeepBut w w' g none ∧ DecK w' B codes codes.length ∧
  match R with
  | none => e = .returned (.tuple #[.int .i64 0, .bool false])
  | some (s, q) => e = .returned (.tuple #[.int .i64 (s : Int), .bool true]) ∧ RdK w0 w' g b q
def ReadRel (w0 : World) (g B gf : Nat) (codes : List S124) (b : List Int) (R : Option (Nat × Nat)) (w : World) (kq : Nat) (w' : World) : Prop :=
  ∃ (i : Nat) (x : Int) (p : Nat), Aside0 (w'.heap[gf]? = some (.cells #[.int .i64 (i : Int), .int .i64 x] 124 (0, 0))) ∧ Aside0 (RdK w0 w' g b p) ∧ Aside0 (DecK w' B codes codes.length) ∧ Aside0 (Below w0.heap.size w0 w') ∧ Aside0 (KeepBut w w' g none) ∧
    Aside0 (symM codes b (16 - i) (i : Int) x p = R) ∧ Aside0 (x < 2 ^ i) ∧ kq = 16 - i + 1 ∧ i ≤ 16 ∧ 0 ≤ x
theorem pow_i16 (i : Nat) (h : i ≤ 16) : (2 : Int) ^ i ≤ 65536 := pow_cast i 65536 (Nat.le_trans (Nat.pow_le_pow_right (n := 2) (by decide) h) (by decide))
theorem keep_new {w W : World} {g gf : Nat} (h : KeepBut w W g none) (hf : w.heap.size ≤ gf) (i : Nat) (u : Value) : KeepBut w (W.setCell ⟨gf, i, none⟩ u) g none :=
  ⟨by simpa [World.setCell] using h.1, fun k hk hg hr => (Below.heap_setCell W ⟨gf, i, none⟩ u k (by show k ≠ gf; omega)).trans (h.2 k hk hg hr)⟩
theorem keep_then {w W W2 : World} {g : Nat} (h : KeepBut w W g none) (h2 : KeepBut W W2 g none) : KeepBut w W2 g none :=
  ⟨Nat.le_trans h.1 h2.1, fun k hk hg hr => (h2.2 k (Nat.lt_of_lt_of_le hk h.1) hg hr).trans (h.2 k hk hg hr)⟩
set_option maxRecDepth 100000 in
set_option maxHeartbeats 8000000 in
theorem read_calls (w0 w : World) (g B : Nat) (codes : List S124) (b : List Int) (p : Nat) (R : Option (Nat × Nat)) (hB : Below w0.heap.size w0 w) (h : RdK w0 w g b p) (hD : DecK w B codes codes.length) (hbb : ∀ x ∈ b, 0 ≤ x ∧ x ≤ 255) (hA : Apart codes) (hR : symM codes b 16 0 0 p = R) (hw0 : w0.heap.size ≤ B) :
    Calls Try.prog 83 #[.map (some B), .pointer (some ⟨g, 0, none⟩)] w (ReadPost w0 g B codes b R w) := by
  have HB := Aside0.mk hB
  have HRD := Aside0.mk h
  have HD := Aside0.mk hD
  have HBB := Aside0.mk hbb
  have HA := Aside0.mk hA
  have HR := Aside0.mk hR
  clear hB h hD hbb hA hR
  go_enter Try.func83, Try.ntmps83
  go_wp2
  have hq := blk_new w (Obj.cells #[.int .i64 0, .int .i64 0] 124)
  have hb1 := below_alloc (Below.refl w.heap.size w) (Obj.cells #[.int .i64 0, .int .i64 0] 124)
  have HB1 := Aside0.mk (Below.trans HB.out (hb1.mono HB.out.size))
  have HRD1 := Aside0.mk (HRD.out.below hb1)
  have HD1 := Aside0.mk (HD.out.below hb1)
  have HK1 := Aside0.mk (KeepBut.of_below hb1 g none)
  have HGF := Aside0.mk (show w0.heap.size ≤ w.heap.size from HB.out.size)
  have HGF2 := Aside0.mk (Nat.le_refl w.heap.size)
  have HGB := Aside0.mk (show w.heap.size ≠ B from fun e => by have := HD.out.lt; omega)
  generalize w.alloc (Obj.cells #[.int .i64 0, .int .i64 0] 124) = W1 at hq HB1 HRD1 HD1 HK1 ⊢
  replace HGF2 := Aside0.mk (show w.heap.size ≤ w.heap.size from HGF2.out)
  generalize hgf : w.heap.size = gf at hq HGF HGB ⊢
  have HGF3 := Aside0.mk (show w.heap.size ≤ gf by omega)
  have HQ := Aside0.mk hq
  clear hb1 hq hgf HGF2
  go_loopg [] (17) (fun kq w' => ReadRel w0 g B gf codes b R w kq w')
  case atStart => exact ⟨0, 0, p, HQ, HRD1, HD1, HB1, HK1, HR, ⟨by decide⟩, rfl, by omega, by omega⟩
  case round =>
    clear HQ HRD1 HD1 HB1 HK1
    obtain ⟨i, x, p, HQ, HRD, HD, HB, HK, HS, HX, rfl, hi, hx0⟩ := hrel
    have k0 := blk_cell HQ.out 0
    have k1 := blk_cell HQ.out 1
    simp at k0 k1
    have hne : g ≠ gf := HRD.out.ne HQ.out (by decide)
    by_cases hlt : i < 16
    · have hxb : x ≤ 65535 := by have := pow_i16 i hi; have := HX.out; omega
      obtain ⟨r, hr⟩ : ∃ r, 16 - i = r + 1 := ⟨15 - i, by omega⟩
      have hs := HS.out
      rw [hr] at hs
      simp only [symM] at hs
      have hwl : (wr : World).heap.size = wr.heap.size := rfl
      clear hwl
      by_cases hp : p < 8 * b.length
      · rw [if_pos hp] at hs
        have HS2 := Aside0.mk hs
        clear hs
        go_wp2_with fail
        refine (take1_yes w0 _ g b p HB.out HRD.out HBB.out hp).mono ?_
        rintro e_ w2 ⟨rfl, hrd, hb, hk⟩
        have hbit := bitAt_01 b p
        obtain ⟨y, hy⟩ : ∃ y, y = bitAt b p := ⟨_, rfl⟩
        rw [← hy] at hbit ⊢
        have HQ2 := Aside0.mk ((hk.2 gf (blk_lt HQ.out) (fun e => hne e.symm) (by simp)).trans HQ.out)
        have HRD2 := Aside0.mk hrd
        have HD2 := Aside0.mk (HD.out.keep hk (HD.out.ne HRD.out))
        have HB2 := Aside0.mk hb
        have HK2 := Aside0.mk (keep_then HK.out hk)
        have HY := Aside0.mk hy
        clear hrd hb hk hy k0 k1
        have k0 := blk_cell HQ2.out 0
        have k1 := blk_cell HQ2.out 1
        simp at k0 k1
        have f0 := blk_frozen HQ2.out 0
        have f1 := blk_frozen HQ2.out 1
        have e1 : wrap64 ((i : Int) + 1) = (i : Int) + 1 := wrap_in _ (by omega) (by omega)
        have e2 : wrap64 (2 * x) = 2 * x := wrap_in _ (by omega) (by omega)
        have e3 : wrap64 (2 * x + y) = 2 * x + y := wrap_in _ (by omega) (by omega)
        go_upto_region 7 with (fail)
        have HKF : Aside0 (KeepBut w2 ((w2.setCell ⟨gf, 0, none⟩ (.int .i64 ((i : Int) + 1))).setCell ⟨gf, 1, none⟩ (.int .i64 (2 * x + y))) gf none) := ⟨keep_set (keep_set (KeepBut.refl w2 gf none) _ _) _ _⟩
        have hq3 := blk_set (blk_set HQ2.out 0 (.int .i64 ((i : Int) + 1))) 1 (.int .i64 (2 * x + y))
        have HQ3 := Aside0.mk (show ((w2.setCell ⟨gf, 0, none⟩ (.int .i64 ((i : Int) + 1))).setCell ⟨gf, 1, none⟩ (.int .i64 (2 * x + y))).heap[gf]? = some (.cells #[.int .i64 ((i + 1 : Nat) : Int), .int .i64 (2 * x + y)] 124 (0, 0)) from hq3)
        have HRD3 := Aside0.mk (HRD2.out.far HKF.out hne)
        have HD3 := Aside0.mk (HD2.out.keep HKF.out (HD2.out.ne2 HQ2.out))
        have HB3 := Aside0.mk (below_set (below_set HB2.out HGF.out (j := 0) (v := .int .i64 ((i : Int) + 1))) HGF.out (j := 1) (v := .int .i64 (2 * x + y)))
        have HK3 := Aside0.mk (keep_new (keep_new HK2.out HGF3.out 0 (.int .i64 ((i : Int) + 1))) HGF3.out 1 (.int .i64 (2 * x + y)))
        generalize (w2.setCell ⟨gf, 0, none⟩ (.int .i64 ((i : Int) + 1))).setCell ⟨gf, 1, none⟩ (.int .i64 (2 * x + y)) = W3 at HQ3 HRD3 HD3 HB3 HK3 ⊢
        clear hq3 HKF HQ2 HRD2 HD2 HB2 HK2 k0 k1 f0 f1 e1 e2 e3
        have k0 := blk_cell HQ3.out 0
        have k1 := blk_cell HQ3.out 1
        simp at k0 k1
        obtain ⟨D, hown, hkn⟩ := HD3.out
        have hw1 := wf_small ((i : Int) + 1) (by omega) (by omega)
        have hw2 := wf_small (2 * x + y) (by omega) (by omega)
        obtain ⟨kh, kat⟩ := hkn.2 ((i : Int) + 1) (2 * x + y) (by omega) hw1 hw2
        rw [last_first HA.out _ _ (by omega) _ (Nat.le_refl _)] at kh kat
        have HOWN := Aside0.mk hown
        have HKEY := Aside0.mk (keyF_of _ _ hw1 hw2)
        have hsy := HS2.out
        rw [← HY.out] at hsy
        clear hown hkn hw1 hw2 HS2
        obtain ⟨v, hv⟩ : ∃ v, v = 2 * x + y := ⟨_, rfl⟩
        have HV := Aside0.mk hv
        rw [← hv] at k1 kh kat HKEY hsy HQ3 ⊢
        clear hv
        cases hf : firstS codes ((i : Int) + 1) v codes.length with
        | none =>
          rw [hf] at kh hsy
          simp only [Option.isSome_none] at kh
          have KH := Aside0.mk kh
          have HSY := Aside0.mk hsy
          clear kh kat hsy hf
          go_wp2_with (first | (at_lookup; go_loud (refine Go.wpList_lookup_own_ok_int _ rfl _ _ 96 rfl 124 3 .i64 dlaw Try.underlying96 Try.underlying3 (dzero _) B codes.length D rfl HOWN.out _ (keyF ((i : Int) + 1) v) rfl HKEY.out ?_; intro cc hat hwc; rw [KH.out]); clear hat hwc))
          go_roundg (16 - (i + 1) + 1)
          case rel =>
            refine ⟨i + 1, v, p + 1, HQ3, HRD3, HD3, HB3, HK3, ⟨?_⟩, ⟨?_⟩, rfl, by omega, by rw [HV.out]; omega⟩
            · rw [← HSY.out, show 16 - (i + 1) = r by omega]; rfl
            · have := HX.out
              rw [HV.out, Int.pow_succ]; omega
          case measure => simp; omega
        | some s =>
          rw [hf] at kh hsy
          simp only [Option.isSome_some] at kh
          have hat0 := kat s hf
          have KH := Aside0.mk kh
          have HAT := Aside0.mk hat0
          have HSY := Aside0.mk hsy
          clear kh kat hsy hf hat0
          go_wp2_with (first | (at_lookup; go_loud (refine Go.wpList_lookup_own_ok_int _ rfl _ _ 96 rfl 124 3 .i64 dlaw Try.underlying96 Try.underlying3 (dzero _) B codes.length D rfl HOWN.out _ (keyF ((i : Int) + 1) v) rfl HKEY.out ?_; intro cc hat hwc; rw [KH.out]; obtain rfl : cc = (s : Int) := (by have h9 := HAT.out; rw [hat] at h9; simpa using h9)); clear hat hwc))
          go_ret2
          have := HSY.out
          subst this
          exact ⟨HB3.out, HK3.out, HD3.out, rfl, HRD3.out⟩
      · rw [if_neg hp] at hs
        have HS2 := Aside0.mk hs
        clear hs
        go_wp2_with fail
        refine (take1_no w0 _ g b p HB.out HRD.out HBB.out hp).mono ?_
        rintro e_ w2 ⟨rfl, hb, hk⟩
        have HB2 := Aside0.mk hb
        have HK2 := Aside0.mk (keep_then HK.out hk)
        have HD2 := Aside0.mk (HD.out.keep hk (HD.out.ne HRD.out))
        clear hb hk k0 k1
        go_wp2
        go_ret2
        have := HS2.out
        subst this
        exact ⟨HB2.out, HK2.out, HD2.out, rfl⟩
    · obtain rfl : i = 16 := by omega
      go_wp2
      go_ret2
      have := HS.out
      subst this
      exact ⟨HB.out, HK.out, HD.out, rfl⟩
theorem RdK.grown {w0 W W1 : World} {g : Nat} {b : List Int} {p : Nat} {row : Option Nat} (h : RdK w0 W g b p) (hg : W.grownBy W1 row) (hne : some g ≠ row) : RdK w0 W1 g b p := by
  obtain ⟨j, m, h1, h2⟩ := h
  exact ⟨j, m, h1.grown hg hne, h2⟩
theorem RdK.blk {w0 W : World} {g : Nat} {b : List Int} {p : Nat} (h : RdK w0 W g b p) : ∃ cs, W.heap[g]? = some (.cells cs 100 (0, 0)) := by
  obtain ⟨j, m, ⟨A, c, h1, _⟩, _⟩ := h
  exact ⟨_, h1⟩
theorem DecK.neR {W : World} {B : Nat} {codes : List S124} {n : Nat} (h : DecK W B codes n) {α : Type} {d : Kd α} {e base : Nat} {ok : Nat → Prop} {v : Value} {xs : List α} (r : d.R e W base ok v xs) : some B ≠ v.ownBlock := by
  intro e1
  obtain ⟨cs, hcs⟩ := Kd.R_typed r B e1.symm
  exact h.ne2 hcs rfl

end Go.Proofs.Ytcjjmfpkhhdmlaa.G
