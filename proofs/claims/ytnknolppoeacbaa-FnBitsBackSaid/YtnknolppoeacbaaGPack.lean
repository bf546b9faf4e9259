-- Written by gp.py (a program of this session's, over the kit's print). Not trusted: Lean checks it.
import Derived.Test.YtnknolppoeacbaaG0h
import Derived.Test.YtnknolppoeacbaaGLib
import Derived.Test.YtnknolppoeacbaaGReader
import Derived.BigRegion
import Derived.Deep.RegionLaw
namespace Go.Proofs.Ytnknolppoeacbaa.G
open Go.RowKit Go.Proofs.YtnknolppoeacbaaW.PrintWords Go.Proofs.YtnknolppoeacbaaW.PrintLast Go.Proofs.YtnknolppoeacbaaW.PrintMore
attribute [local go_sem] max2_int min2_int max_two min_two max_three min_three max_four min_four   -- for this text's walks alone
set_option linter.unusedVariables false
set_option linter.unusedSimpArgs false

--import Derived.BigRegion
--import Derived.Deep.RegionLaw
/-- whole bytes go out -/
def flushM : Nat → List Int → Int → Int → List Int × Int × Int
  | 0, out, q, m => (out, q, m)
  | d + 1, out, q, m => if m ≥ 8 then flushM d (out ++ [q / 2 ^ (m - 8).toNat]) (q % 2 ^ (m - 8).toNat) (m - 8) else (out, q, m)
/-- the three variables that the closure has: the bits, how many, the bytes -/
def PK (w0 W : World) (gb gm go : Nat) (out : List Int) (q m : Int) : Prop :=
  W.heap[gb]? = some (.cells #[.int .i64 q] 3 (0, 0)) ∧ W.heap[gm]? = some (.cells #[.int .i64 m] 3 (0, 0)) ∧ gb ≠ gm ∧ w0.heap.size ≤ gb ∧ w0.heap.size ≤ gm ∧ w0.heap.size ≤ go ∧
  ∃ v, W.heap[go]? = some (.cells #[v] 27 (0, 0)) ∧ Kd.R (Kd.int .u8) 5 W w0.heap.size (fun _ => True) v out
def PutRel (w0 : World) (gb gm go : Nat) (R : List Int × Int × Int) (kq : Nat) (w' : World) : Prop :=
  ∃ (out : List Int) (q m : Int), Aside0 (PK w0 w' gb gm go out q m) ∧ Aside0 (Below w0.heap.size w0 w') ∧ Aside0 (flushM kq out q m = R) ∧ Aside0 (q < 2 ^ m.toNat) ∧ Aside0 (out.length + kq ≤ 281474976) ∧ 0 ≤ q ∧ 0 ≤ m ∧ m < 8 * (kq + 1) ∧ m ≤ 23
set_option maxRecDepth 100000 in
set_option maxHeartbeats 4000000 in
theorem put_calls (w0 w : World) (gb gm go : Nat) (out : List Int) (q m n v : Int) (hB : Below w0.heap.size w0 w) (h : PK w0 w gb gm go out q m) (h0 : 0 ≤ q) (h1 : q < 2 ^ m.toNat) (h2 : 0 ≤ m) (h3 : m ≤ 7) (h4 : 0 ≤ n) (h5 : n ≤ 16) (h6 : 0 ≤ v) (h7 : v < 2 ^ n.toNat) (h8 : out.length ≤ 281474970) :
    Calls Try.prog 49 #[.int .i64 n, .int .i64 v, .pointer (some ⟨gb, 0, none⟩), .pointer (some ⟨gm, 0, none⟩), .pointer (some ⟨go, 0, none⟩)] w fun e w' => e = .returned (.tuple #[]) ∧
      (∃ r, r = flushM 2 out (q * 2 ^ n.toNat + v) (m + n) ∧ PK w0 w' gb gm go r.1 r.2.1 r.2.2) ∧ Below w0.heap.size w0 w' := by
  have HB := Aside0.mk hB
  have HPK := Aside0.mk h
  have HQ := Aside0.mk h1
  have HV := Aside0.mk h7
  obtain ⟨k1, k2, hne, g1, g2, g3, vo, k3, hR⟩ := h
  have c1 := blk_cell k1 0
  have c2 := blk_cell k2 0
  have c3 := blk_cell k3 0
  simp at c1 c2 c3
  have f1 := blk_frozen k1 0
  have f2 := blk_frozen k2 0
  have f3 := blk_frozen k3 0
  have NE1 := Aside0.mk (Ne.symm (blk_ne k2 k3 (by decide)))
  have NE2 := Aside0.mk (Ne.symm (blk_ne k1 k3 (by decide)))
  clear k1 k2 k3 hR hB h1 h7
  go_enter Try.func49, Try.ntmps49
  go_wp2
  go_region
  go_wp2
  clear c1 c2 c3 f1 f2 f3 vo
  go_loopg [] 2 (fun kq w' => PutRel w0 gb gm go (flushM 2 out (q * 2 ^ n.toNat + v) (m + n)) kq w')
  case atStart =>
    have hv := pow_bits n h4 (by omega)
    have hm := pow_bits m h2 (by omega)
    have hpn : (2 : Int) ^ n.toNat ≤ 65536 := by
      have h1 : n.toNat ≤ 16 := by omega
      exact pow_cast _ 65536 (Nat.pow_le_pow_right (n := 2) (by decide) h1)
    have hpm : (2 : Int) ^ m.toNat ≤ 128 := by
      have h1 : m.toNat ≤ 7 := by omega
      exact pow_cast _ 128 (Nat.pow_le_pow_right (n := 2) (by decide) h1)
    have hp1 := pow_one n.toNat
    have hq1 := HQ.out
    have hv1 := HV.out
    have hqb : q * 2 ^ n.toNat ≤ 127 * 65536 := Int.mul_le_mul (by omega) hpn (by omega) (by omega)
    have hqb0 : 0 ≤ q * 2 ^ n.toNat := Int.mul_nonneg h0 (by omega)
    have hor : Go.bits .or .i64 (wrap64 (q * 2 ^ n.toNat)) v = q * 2 ^ n.toNat + v := by
      rw [wrap_in _ (by omega) (by omega)]
      exact bits_join .i64 62 (by decide) (fun n h0 h1 => by rw [IntKind.wrap_i64]; omega) n.toNat _ v hqb0 (Int.mul_emod_left _ _) (by omega) h6 hv1 (by omega)
    rw [hor]
    obtain ⟨k1, k2, _, _, _, _, vo, k3, hR⟩ := HPK.out
    refine ⟨out, q * 2 ^ n.toNat + v, m + n, ⟨?_⟩, ⟨below_drew (below_set (below_set HB.out g1) g2)⟩, ⟨rfl⟩, ⟨?_⟩, ⟨by omega⟩, by omega, by omega, by omega, by omega⟩
    · refine ⟨blk_far (blk_set k1 0 _) hne _, blk_set (blk_far k2 hne.symm _) 0 _, hne, g1, g2, g3, vo, blk_far (blk_far k3 NE2.out _) NE1.out _, ?_⟩
      exact Kd.R_drew (Kd.R_mono (Kd.R_far (p := ⟨gm, 0, none⟩) (Kd.R_far (p := ⟨gb, 0, none⟩) (Kd.R_types (Kd.R_types hR k1 (by decide)) k2 (by decide)) (fun k hk => hk.1.2) _) (fun k hk => hk.2) _) (fun _ _ => trivial))
    · have e : (m + n).toNat = m.toNat + n.toNat := by omega
      rw [e, Int.pow_add]
      have : (q + 1) * 2 ^ n.toNat ≤ 2 ^ m.toNat * 2 ^ n.toNat := Int.mul_le_mul_of_nonneg_right (by omega) (by omega)
      rw [Int.add_mul, Int.one_mul] at this
      omega
  case round =>
    obtain ⟨out', q', m', HPK', HB', HF, HQ', HL, p0, p1, p2, p3⟩ := hrel
    obtain ⟨k1, k2, _, _, _, _, vo, k3, hR⟩ := HPK'.out
    have c1 := blk_cell k1 0
    have c2 := blk_cell k2 0
    have c3 := blk_cell k3 0
    simp at c1 c2 c3
    have f1 := blk_frozen k1 0
    have f2 := blk_frozen k2 0
    have f3 := blk_frozen k3 0
    have K1 := Aside0.mk k1
    have K2 := Aside0.mk k2
    have K3 := Aside0.mk k3
    have HR := Aside0.mk hR
    clear k1 k2 k3 hR
    by_cases h8 : m' ≥ 8
    · go_wp2
      generalize hW : wr.setCell ⟨gm, 0, none⟩ (.int .i64 (m' - 8)) = W2
      have j1 : W2.heap[gb]? = some (.cells #[.int .i64 q'] 3 (0, 0)) := by rw [← hW]; exact blk_far K1.out hne _
      have j2 : W2.heap[gm]? = some (.cells #[.int .i64 (m' - 8)] 3 (0, 0)) := by rw [← hW]; exact blk_set K2.out 0 _
      have j3 : W2.heap[go]? = some (.cells #[vo] 27 (0, 0)) := by rw [← hW]; exact blk_far K3.out NE1.out _
      have HR2 := Aside0.mk (show Kd.R (Kd.int .u8) 5 W2 w0.heap.size (fun _ => True) vo out' by
        rw [← hW]
        exact Kd.R_mono (Kd.R_far (p := ⟨gm, 0, none⟩) (Kd.R_types HR.out K2.out (by decide)) (fun k hk => hk.2) _) (fun _ _ => trivial))
      have HB2 := Aside0.mk (show Below w0.heap.size w0 W2 by rw [← hW]; exact below_set HB'.out g2)
      clear hW
      have c1 := blk_cell j1 0
      have c2 := blk_cell j2 0
      have c3 := blk_cell j3 0
      simp at c1 c2 c3
      have f1 := blk_frozen j1 0
      have f2 := blk_frozen j2 0
      have f3 := blk_frozen j3 0
      have c3a : ∀ o : Obj, (W2.alloc o).cell? ⟨go, 0, none⟩ = some vo := fun o => (World.cell?_alloc_lt _ _ _ (blk_lt j3)).trans c3
      have J1 := Aside0.mk j1
      have J2 := Aside0.mk j2
      have J3 := Aside0.mk j3
      clear j1 j2 j3 K1 K2 K3 HR HB'
      have hol := HL.out
      go_region_law (refine Kd.R_append_step (Kd.int .u8) (w0 := w0) (W := W2.drew) w0.heap.size (by rfl) (.tmp 19) (.tmp 24) 27 5 (.int .u8 0) 1 (by rfl) Try.underlying27 info5 (by rfl) (by decide) (by omega) vo out' (IntKind.u8.wrap (q' / 2 ^ (m' - 8).toNat)) [.int .u8 (IntKind.u8.wrap (q' / 2 ^ (m' - 8).toNat))] (fun _ => True) (fun _ => False) (by rfl) (by rfl) (by rfl) (fun _ hk => hk.elim) (fun _ _ => trivial) (Kd.R_drew HR2.out) (below_drew HB2.out) HB2.out.size (by omega) ?_; intro v8 w3 ho hb hg hat; obtain ⟨A8, c8, e8⟩ := Kd.R_slice ho; subst e8; have HO := Aside0.mk ho; have HB3 := Aside0.mk hb; have HG3 := Aside0.mk hg; clear ho hb hg hat; have i1 := blk_grown (w := W2.drew) J1.out HG3.out (Kd.R_ne (Kd.R_drew HR2.out) J1.out (by decide)); have i2 := blk_grown (w := W2.drew) J2.out HG3.out (Kd.R_ne (Kd.R_drew HR2.out) J2.out (by decide)); have i3 := blk_grown (w := W2.drew) J3.out HG3.out (Kd.R_ne (Kd.R_drew HR2.out) J3.out (by decide)); have d3 := blk_cell i3 0; simp at d3; have e3 := blk_frozen i3 0; have I1 := Aside0.mk i1; have I2 := Aside0.mk i2; have I3 := Aside0.mk i3; clear i1 i2 i3)
      all_goals
        go_wp2
        generalize hW4 : w3.setCell ⟨go, 0, none⟩ (.slice A8 (out'.length + 1) c8) = W4
        have j1 : W4.heap[gb]? = some (.cells #[.int .i64 q'] 3 (0, 0)) := by rw [← hW4]; exact blk_far I1.out (fun h => NE2.out h.symm) _
        have j2 : W4.heap[gm]? = some (.cells #[.int .i64 (m' - 8)] 3 (0, 0)) := by rw [← hW4]; exact blk_far I2.out (fun h => NE1.out h.symm) _
        have j3 : W4.heap[go]? = some (.cells #[.slice A8 (out'.length + 1) c8] 27 (0, 0)) := by rw [← hW4]; exact blk_set I3.out 0 _
        have HR4 := Aside0.mk (show Kd.R (Kd.int .u8) 5 W4 w0.heap.size (fun _ => True) (.slice A8 (out'.length + 1) c8) (out' ++ [IntKind.u8.wrap (q' / 2 ^ (m' - 8).toNat)]) by
          rw [← hW4]
          have h9 := HO.out
          rw [show (out' ++ [IntKind.u8.wrap (q' / 2 ^ (m' - 8).toNat)]).length = out'.length + 1 by simp] at h9
          exact Kd.R_mono (Kd.R_far (p := ⟨go, 0, none⟩) (Kd.R_types h9 I3.out (by decide)) (fun k hk => hk.2) _) (fun _ _ => trivial))
        have HB4 := Aside0.mk (show Below w0.heap.size w0 W4 by rw [← hW4]; exact below_set HB3.out g3)
        clear hW4 c1 c2 c3 f1 f2 f3 c3a d3 e3 HO HB3 HG3 I1 I2 I3
        have c1 := blk_cell j1 0
        have c2 := blk_cell j2 0
        simp at c1 c2
        have f1 := blk_frozen j1 0
        have J1 := Aside0.mk j1
        have J2 := Aside0.mk j2
        have J3 := Aside0.mk j3
        clear j1 j2 j3
        go_region
        go_wp2
        cases gk with
        | zero => omega
        | succ k1 =>
        go_roundg k1
        case rel =>
          have hpw := pow_one (m' - 8).toNat
          have hq2 := HQ'.out
          have e8 : m'.toNat = 8 + (m' - 8).toNat := by omega
          rw [e8, Int.pow_add] at hq2
          have hdlt : q' / 2 ^ (m' - 8).toNat < 256 := Int.ediv_lt_of_lt_mul (by omega) (by have : (2 : Int) ^ 8 = 256 := rfl; omega)
          have hd0 : 0 ≤ q' / 2 ^ (m' - 8).toNat := Int.ediv_nonneg p0 (by omega)
          have hwr : IntKind.u8.wrap (q' / 2 ^ (m' - 8).toNat) = q' / 2 ^ (m' - 8).toNat := by rw [IntKind.wrap_u8]; omega
          have hb23 := pow_bits m' p1 p3
          have hand := and_mask q' (m' - 8).toNat p0 (by have := HQ'.out; omega) (by omega)
          rw [hand]
          rw [hwr] at HR4
          have hF := HF.out
          simp only [flushM] at hF
          rw [if_pos h8] at hF
          refine ⟨out' ++ [q' / 2 ^ (m' - 8).toNat], q' % 2 ^ (m' - 8).toNat, m' - 8, ⟨?_⟩, ⟨below_drew (below_set HB4.out g1)⟩, ⟨hF⟩, ⟨Int.emod_lt_of_pos _ (by omega)⟩, ⟨by simp; omega⟩, Int.emod_nonneg _ (by omega), by omega, by omega, by omega⟩
          refine ⟨blk_set J1.out 0 _, blk_far J2.out hne.symm _, hne, g1, g2, g3, _, blk_far J3.out NE2.out _, ?_⟩
          exact Kd.R_drew (Kd.R_mono (Kd.R_far (p := ⟨gb, 0, none⟩) (Kd.R_types HR4.out J1.out (by decide)) (fun k hk => hk.2) _) (fun _ _ => trivial))
        case measure => omega
    · go_wp2
      have hF := HF.out
      have : flushM gk out' q' m' = (out', q', m') := by
        cases gk with
        | zero => rfl
        | succ k => simp only [flushM]; rw [if_neg (by omega)]
      rw [this] at hF
      go_end0
      refine ⟨rfl, ?_, HB'.out⟩
      rw [← hF]
      exact HPK'.out

end Go.Proofs.Ytnknolppoeacbaa.G
