import Derived.WalkSpells
import Derived.Deep.LoopGhost
import Derived.Test.YtcjjmfpkhhdmlaaMFnCodesBack3
set_option linter.unusedVariables false
set_option linter.unusedSimpArgs false
namespace Go.Proofs.Ytcjjmfpkhhdmlaa.G
open Go.RowKit Go.Proofs.YtcjjmfpkhhdmlaaW.PrintWords Go.Proofs.YtcjjmfpkhhdmlaaW.PrintLast Go.Proofs.YtcjjmfpkhhdmlaaW.PrintMore
attribute [local go_sem] max2_int min2_int max_two min_two max_three min_three max_four min_four   -- for this text's walks alone
mutual
def spec_l08DrawFreqs.l0 : Nat → List Int → Int → List Int → Int → Int → Option (List Int × Int × Int)
 | 0, _, _, _, _, _ => none
 | k + 1, x3, x4, x1000, x1001, x1002 => if x4 > 0 then ((spec_l01Cur_pick.f x1000 x1001 x1002 9).bind fun bt724 => ((spec_l01Cur_pick.f x1000 bt724.2.1 bt724.2.2 300).bind fun bt727 => ((spec_l01Cur_pick.f x1000 bt727.2.1 bt727.2.2 19).bind fun bt730 => (if 0 ≤ bt730.1 then ((some (([0, 1, bt724.1, bt727.1, shl .i64 1 bt730.1] : List Int) : List Int)).bind fun y733 => ((spec_l01Cur_pick.f x1000 bt730.2.1 bt730.2.2 5).bind fun bt736 => (if 0 ≤ bt736.1 then (if bt736.1 < (y733.length : Int) then (if x3.length < 17592186044416 then (spec_l08DrawFreqs.l0 k (x3 ++ [rd y733 bt736.1]) (wrap64 (x4 - 1)) x1000 bt736.2.1 bt736.2.2) else (none)) else (none)) else (none)))) else (none))))) else ((spec_l01Cur_pick.f x1000 x1001 x1002 14).bind fun bt743 => (if bt743.1 = 0 then ((spec_l01Cur_pick.f x1000 bt743.2.1 bt743.2.2 (x3.length : Int)).bind fun bt746 => ((spec_l01Cur_odd.f x1000 bt746.2.1 bt746.2.2).bind fun bt749 => ((some (([(-1), 1000000, 1000001, bt749.1] : List Int) : List Int)).bind fun y752 => ((spec_l01Cur_pick.f x1000 bt749.2.1 bt749.2.2 4).bind fun bt755 => (if 0 ≤ bt755.1 then (if bt755.1 < (y752.length : Int) then (if 0 ≤ bt746.1 then (if bt746.1 < (x3.length : Int) then (some ((x3.set (bt746.1 : Int).toNat (rd y752 bt755.1)), bt755.2.1, bt755.2.2)) else (none)) else (none)) else (none)) else (none)))))) else (if bt743.1 = 1 then (spec_l08DrawFreqs.l1 k x3 0 x1000 bt743.2.1 bt743.2.2) else (if bt743.1 = 2 then (spec_l08DrawFreqs.l2 k (([] : List Int)) 1 1 0 x1000 bt743.2.1 bt743.2.2) else (if bt743.1 = 3 then (spec_l08DrawFreqs.l3 k x3 x1000 bt743.2.1 bt743.2.2) else (some (x3, bt743.2.1, bt743.2.2)))))))
def spec_l08DrawFreqs.l1 : Nat → List Int → Int → List Int → Int → Int → Option (List Int × Int × Int)
 | 0, _, _, _, _, _ => none
 | k + 1, x3, x5, x1000, x1001, x1002 => if x5 < (x3.length : Int) then (if 0 ≤ x5 then (spec_l08DrawFreqs.l1 k (x3.set (x5 : Int).toNat 0) (wrap64 (x5 + 1)) x1000 x1001 x1002) else (none)) else (some (x3, x1001, x1002))
def spec_l08DrawFreqs.l2 : Nat → List Int → Int → Int → Int → List Int → Int → Int → Option (List Int × Int × Int)
 | 0, _, _, _, _, _, _, _ => none
 | k + 1, x3, x6, x7, x8, x1000, x1001, x1002 => if x8 < 28 then (if x3.length < 17592186044416 then (spec_l08DrawFreqs.l2 k (x3 ++ [x6]) x7 (wrap64 (x6 + x7)) (wrap64 (x8 + 1)) x1000 x1001 x1002) else (none)) else (some (x3, x1001, x1002))
def spec_l08DrawFreqs.l3 : Nat → List Int → List Int → Int → Int → Option (List Int × Int × Int)
 | 0, _, _, _, _ => none
 | k + 1, x3, x1000, x1001, x1002 => (spec_l01Cur_pick.f x1000 x1001 x1002 2).bind fun bt767 => (if (x3.length : Int) < (wrap64 (256 + bt767.1)) then ((spec_l01Cur_pick.f x1000 bt767.2.1 bt767.2.2 3).bind fun bt770 => (if x3.length < 17592186044416 then (spec_l08DrawFreqs.l3 k (x3 ++ [bt770.1]) x1000 bt770.2.1 bt770.2.2) else (none))) else (some (x3, bt767.2.1, bt767.2.2)))
end
def spec_l08DrawFreqs.f (k : Nat) (s0_0 : List Int) (s0_1 : Int) (s0_2 : Int) : Option (List Int × Int × Int) := (spec_l01Cur_size.f s0_0 s0_1 s0_2 20).bind fun bt721 => (spec_l08DrawFreqs.l0 k (([] : List Int)) (wrap64 (1 + bt721.1)) s0_0 bt721.2.1 bt721.2.2)
def spec_l08DrawFreqs.T5 : Bool × List (List Nat × List Nat) := (true, [([], []), ([], []), ([1], [1]), ([], []), ([3, 2], [3]), ([], []), ([5, 4], [5]), ([6], [6]), ([2, 4, 7], [2, 4, 7]), ([], []), ([9, 6], [9]), ([8, 10], [8, 10]), ([11], [11]), ([12], [12]), ([0, 13, 10], [0, 13]), ([14, 14, 0, 1, 2, 3, 4, 5, 6, 7, 8, 9, 10, 11, 12, 13, 14], [0, 14])])
def spec_l08DrawFreqs.B5 : List Nat := [0, 0, 2, 0, 14, 0, 62, 126, 254, 0, 638, 2046, 4094, 8190, 16383, 32767]
theorem spec_l08DrawFreqs.tab5 : rtab .any (opsOf Try.f155 5) = spec_l08DrawFreqs.T5 := by kernel_rfl
theorem spec_l08DrawFreqs.bits5 : waitsOk spec_l08DrawFreqs.T5.2 spec_l08DrawFreqs.B5 = true := by kernel_rfl
set_option maxHeartbeats 8000000 in
set_option maxRecDepth 100000 in
theorem spec_l08DrawFreqs.calls (k : Nat) (g : Nat) (s0_0 : List Int) (s0_1 : Int) (s0_2 : Int) (r1 : List Int) (r2 : Int) (r3 : Int) (w0 w : World) (hI : IsS150 w0 w g s0_0 s0_1 s0_2) (hB : Below w0.heap.size w0 w) (h : spec_l08DrawFreqs.f k s0_0 s0_1 s0_2 = some (r1, r2, r3)) :
  Calls Try.prog 155 #[.pointer (some ⟨g, 0, none⟩)] w fun e w' => ∃ v0_ : Value, e = .returned (v0_) ∧ Kd.R (Kd.int .i64) 3 w' w.heap.size (fun _ => True) v0_ r1 ∧ IsS150 w0 w' g s0_0 r2 r3 ∧ Below w0.heap.size w0 w' ∧ KeepBut w w' g none := by
 have HI0 := Aside0.mk hI
 have HK := Aside0.mk (KeepBut.refl w g none)
 have HL := Aside0.mk hB.size
 clear hI
 have HW0 := Aside0.mk hB.size
 have HB := Aside0.mk hB
 clear hB
 have H : ((spec_l01Cur_size.f s0_0 s0_1 s0_2 20).bind fun bt721 => (spec_l08DrawFreqs.l0 k (([] : List Int)) (wrap64 (1 + bt721.1)) s0_0 bt721.2.1 bt721.2.2)) = some (r1, r2, r3) := h
 clear h
 obtain ⟨y718, hy718⟩ : ∃ y_ : List Int, y_ = (([] : List Int)) := ⟨_, rfl⟩
 replace H : ((spec_l01Cur_size.f s0_0 s0_1 s0_2 20).bind fun bt721 => (spec_l08DrawFreqs.l0 k y718 (wrap64 (1 + bt721.1)) s0_0 bt721.2.1 bt721.2.2)) = some (r1, r2, r3) := by first | (rw [hy718]; with_reducible exact H) | (have H2_ := (Option.bind_some _ _).symm.trans H; rw [hy718]; with_reducible exact H2_) | (have H2_ := (Option.bind_some _ _).symm.trans H; with_reducible exact H2_) | with_reducible exact H | (rw [hy718]; exact H) | exact H
 have Ny718 := Aside0.mk hy718
 clear hy718
 replace H := Option.bind_eq_some_iff.mp H
 obtain ⟨⟨t721, t722, t723⟩, A20, H⟩ := H
 replace H : (spec_l08DrawFreqs.l0 k y718 (wrap64 (1 + t721)) s0_0 t722 t723) = some (r1, r2, r3) := H
 have A2 := Aside0.mk A20
 clear A20
 have H' := Aside0.mk H
 clear H
 go_enter Try.func155, Try.ntmps155
 go_wp2_with (first | ((with_reducible refine gate_dst (N := 10) rfl ?_); refine Kd.R_lit (Kd.int .i64) _ 3 ?hg (N := 10) ?hd (xs := ([] : List Int)) (inner := []) (ok := fun _ => True) (okp := fun _ => True) ?hr ?hp (fun _ hk => hk) trivial (Below.refl _ _) (Nat.le_refl _) (by simp) ?_; (case hd => rfl); (case hg => rfl); (case hr => first | (go_simp; done) | (go_simp; rfl)); (case hp => exact (Reps.none _ _)); intro v719 w3 ho4 hb hg_ hnew_; clear hg_ hnew_; (first | rw [← Ny718.out] at ho4 | (simp only [Int.reduceToNat] at ho4; rw [← Ny718.out] at ho4)); have n0_ := Aside0.mk (Kd.R_lower ho4 (keep_size (w := w) (g := g) (row := none) (by repeat (first | (with_reducible first | exact HK.out | apply KeepBut.set_ | apply keep_drewN | apply keep_drew | apply keep_alloc) | exact HK.out)))); have n1_ := Aside0.mk (IsS150.below (by repeat (first | (with_reducible first | exact HI0.out | apply IsS150.alloc | apply IsS150.drewN | apply IsS150.drew | apply IsS150.set_1 | apply IsS150.set_2) | exact HI0.out)) hb); have n2_ := Aside0.mk (KeepBut.trans (by repeat (first | (with_reducible first | exact HK.out | apply KeepBut.set_ | apply keep_drewN | apply keep_drew | apply keep_alloc) | exact HK.out)) (KeepBut.of_below hb g none) (.inl rfl)); have n3_ := Aside0.mk (below_step (by repeat (first | (with_reducible first | exact HB.out | apply below_alloc | apply pw_below_drewN | apply below_drew1 | refine below_set ?_ (IsS150.ge HI0.out)) | exact HB.out)) hb); clear HI0; clear HK; clear HB; have HO720 := n0_; have HI0 := n1_; have HK := n2_; have HB := n3_; clear n0_ n1_ n2_ n3_; clear hb ho4) | ((with_reducible refine gate_callee (f := 153) rfl ?_); refine goesL_ (some 12) rfl rfl Try.func153 (by kernel_rfl) rfl #[.pointer (some ⟨g, 0, none⟩), .int .i64 20] rfl (by (try simp only [List.map_toArray, List.map_cons, List.map_nil]); first | done | rfl | (simp only [List.length_drop, List.length_take]; rfl)) ?_; (with_reducible refine (spec_l01Cur_size.calls g s0_0 s0_1 s0_2 20 t721 t722 t723 w0 _ ?side1 ?side2 A2.out).mono ?_); (case side1 => repeat (first | (with_reducible first | exact HI0.out | apply IsS150.alloc | apply IsS150.drewN | apply IsS150.drew | apply IsS150.set_1 | apply IsS150.set_2) | exact HI0.out)); (case side2 => repeat (first | (with_reducible first | exact HB.out | apply below_alloc | apply pw_below_drewN | apply below_drew1 | refine below_set ?_ (IsS150.ge HI0.out)) | exact HB.out)); rintro e w5 ⟨rfl, hi, hb, hk⟩; refine ⟨_, rfl, ?_⟩; have n0_ := Aside0.mk (Kd.R_mono (Kd.R_keep (IsS150.apart (show IsS150 w0 _ g s0_0 s0_1 s0_2 from by repeat (first | (with_reducible first | exact HI0.out | apply IsS150.alloc | apply IsS150.drewN | apply IsS150.drew | apply IsS150.set_1 | apply IsS150.set_2) | exact HI0.out)) (by (with_reducible repeat (first | apply Kd.R_alloc | apply Kd.R_drewN | apply Kd.R_drew)); exact HO720.out) (by decide)) hk (fun _ h => h.2)) (fun _ h => h.1)); have n1_ := Aside0.mk (KeepBut.trans (by repeat (first | (with_reducible first | exact HK.out | apply KeepBut.set_ | apply keep_drewN | apply keep_drew | apply keep_alloc) | exact HK.out)) hk (.inl rfl)); have n2_ := Aside0.mk (hb); have n3_ := Aside0.mk (hi); clear HO720; clear HK; clear HB; clear HI0; have HO720 := n0_; have HK := n1_; have HB := n2_; have HI0 := n3_; clear n0_ n1_ n2_ n3_; (try clear hb); (try clear hb2); (try clear hk); (try clear hi)))
 go_loopg [3, 4] k (fun kq v3 v4 w' => ∃ (x3_1 : List Int) (x4_1 : Int) (x1001_1 : Int) (x1002_1 : Int), v4 = .int .i64 x4_1 ∧ Aside0 (spec_l08DrawFreqs.l0 kq x3_1 x4_1 s0_0 x1001_1 x1002_1 = some (r1, r2, r3)) ∧ Aside0 (kq ≤ k) ∧ Aside0 (Kd.R (Kd.int .i64) 3 w' w.heap.size (fun _ => True) v3 x3_1) ∧ Aside0 (IsS150 w0 w' g s0_0 x1001_1 x1002_1) ∧ Aside0 (KeepBut w w' g none) ∧ Aside0 (Below w0.heap.size w0 w'))
 case atStart => exact ⟨(y718), (wrap64 (1 + t721)), (t722), (t723), (by first | rfl | (simp; done) | (simp [*]; done)), H', ⟨Nat.le_refl _⟩, ⟨by (with_reducible repeat (first | apply Kd.R_alloc | apply Kd.R_drewN | apply Kd.R_drew)); exact HO720.out⟩, ⟨by repeat (first | (with_reducible first | exact HI0.out | apply IsS150.alloc | apply IsS150.drewN | apply IsS150.drew | apply IsS150.set_1 | apply IsS150.set_2) | exact HI0.out)⟩, ⟨by repeat (first | (with_reducible first | exact HK.out | apply KeepBut.set_ | apply keep_drewN | apply keep_drew | apply keep_alloc) | exact HK.out)⟩, ⟨by repeat (first | (with_reducible first | exact HB.out | apply below_alloc | apply pw_below_drewN | apply below_drew1 | refine below_set ?_ (IsS150.ge HI0.out)) | exact HB.out)⟩⟩
 case round =>
  clear H'
  try clear c1
  try clear p2
  obtain ⟨x3_1, x4_1, x1001_1, x1002_1, rfl, HA, HK1, HO_3, HI0, HK, HB⟩ := hrel
  cases gk with
  | zero => exact absurd HA.out (by simp [spec_l08DrawFreqs.l0])
  | succ k1 =>
   have H := HA.out
   clear HA
   simp only [spec_l08DrawFreqs.l0] at H
   by_cases c6 : x4_1 > 0
   ·rw [if_pos c6] at H
    have c6b0 : decide (0 < x4_1) = true := decide_eq_true c6
    clear c6
    replace H := Option.bind_eq_some_iff.mp H
    obtain ⟨⟨t724, t725, t726⟩, A70, H⟩ := H
    replace H : ((spec_l01Cur_pick.f s0_0 t725 t726 300).bind fun bt727 => ((spec_l01Cur_pick.f s0_0 bt727.2.1 bt727.2.2 19).bind fun bt730 => (if 0 ≤ bt730.1 then ((some (([0, 1, t724, bt727.1, shl .i64 1 bt730.1] : List Int) : List Int)).bind fun y733 => ((spec_l01Cur_pick.f s0_0 bt730.2.1 bt730.2.2 5).bind fun bt736 => (if 0 ≤ bt736.1 then (if bt736.1 < (y733.length : Int) then (if x3_1.length < 17592186044416 then (spec_l08DrawFreqs.l0 k1 (x3_1 ++ [rd y733 bt736.1]) (wrap64 (x4_1 - 1)) s0_0 bt736.2.1 bt736.2.2) else (none)) else (none)) else (none)))) else (none)))) = some (r1, r2, r3) := H
    have A7 := Aside0.mk A70
    clear A70
    replace H := Option.bind_eq_some_iff.mp H
    obtain ⟨⟨t727, t728, t729⟩, A80, H⟩ := H
    replace H : ((spec_l01Cur_pick.f s0_0 t728 t729 19).bind fun bt730 => (if 0 ≤ bt730.1 then ((some (([0, 1, t724, t727, shl .i64 1 bt730.1] : List Int) : List Int)).bind fun y733 => ((spec_l01Cur_pick.f s0_0 bt730.2.1 bt730.2.2 5).bind fun bt736 => (if 0 ≤ bt736.1 then (if bt736.1 < (y733.length : Int) then (if x3_1.length < 17592186044416 then (spec_l08DrawFreqs.l0 k1 (x3_1 ++ [rd y733 bt736.1]) (wrap64 (x4_1 - 1)) s0_0 bt736.2.1 bt736.2.2) else (none)) else (none)) else (none)))) else (none))) = some (r1, r2, r3) := H
    have A8 := Aside0.mk A80
    clear A80
    replace H := Option.bind_eq_some_iff.mp H
    obtain ⟨⟨t730, t731, t732⟩, A90, H⟩ := H
    replace H : (if 0 ≤ t730 then ((some (([0, 1, t724, t727, shl .i64 1 t730] : List Int) : List Int)).bind fun y733 => ((spec_l01Cur_pick.f s0_0 t731 t732 5).bind fun bt736 => (if 0 ≤ bt736.1 then (if bt736.1 < (y733.length : Int) then (if x3_1.length < 17592186044416 then (spec_l08DrawFreqs.l0 k1 (x3_1 ++ [rd y733 bt736.1]) (wrap64 (x4_1 - 1)) s0_0 bt736.2.1 bt736.2.2) else (none)) else (none)) else (none)))) else (none)) = some (r1, r2, r3) := H
    have A9 := Aside0.mk A90
    clear A90
    by_cases c10 : 0 ≤ t730
    ·rw [if_pos c10] at H
     have c10b0 := eq_true c10
     have c10b1 : decide (0 ≤ t730) = true := decide_eq_true c10
     clear c10
     obtain ⟨ji11, hji11⟩ : ∃ j_ : Int, (shl .i64 1 t730) = j_ := ⟨_, rfl⟩
     replace H : ((some (([0, 1, t724, t727, ji11] : List Int) : List Int)).bind fun y733 => ((spec_l01Cur_pick.f s0_0 t731 t732 5).bind fun bt736 => (if 0 ≤ bt736.1 then (if bt736.1 < (y733.length : Int) then (if x3_1.length < 17592186044416 then (spec_l08DrawFreqs.l0 k1 (x3_1 ++ [rd y733 bt736.1]) (wrap64 (x4_1 - 1)) s0_0 bt736.2.1 bt736.2.2) else (none)) else (none)) else (none)))) = some (r1, r2, r3) := by first | (rw [hji11] at H; exact H) | (simp only [hji11] at H ⊢; exact H)
     (try rw [hji11] at A7)
     (try rw [hji11] at A8)
     (try rw [hji11] at A9)
     have hji11_ : (IntKind.i64.wrap (1 * 2 ^ min t730.toNat 64)) = ji11 := hji11
     have hji11z : t730 ≤ 64 → (IntKind.i64.wrap (1 * 2 ^ t730.toNat)) = ji11 := shl_small hji11
     have hji11u : (IntKind.i64.wrap (2 ^ min t730.toNat 64)) = ji11 := by have h_ := hji11_; rw [Int.one_mul] at h_; exact h_
     have hji11v : t730 ≤ 64 → (IntKind.i64.wrap (2 ^ t730.toNat)) = ji11 := fun hle_ => by have h_ := hji11z hle_; rw [Int.one_mul] at h_; exact h_
     have hji11y : (wrap64 (1 * 2 ^ min t730.toNat 64)) = ji11 := (i64_w _).symm.trans hji11_
     have hji11x : t730 ≤ 64 → (wrap64 (1 * 2 ^ t730.toNat)) = ji11 := fun h_ => (i64_w _).symm.trans (hji11z h_)
     obtain ⟨y733, hy733⟩ : ∃ y_ : List Int, y_ = (([0, 1, t724, t727, ji11] : List Int)) := ⟨_, rfl⟩
     replace H : ((spec_l01Cur_pick.f s0_0 t731 t732 5).bind fun bt736 => (if 0 ≤ bt736.1 then (if bt736.1 < (y733.length : Int) then (if x3_1.length < 17592186044416 then (spec_l08DrawFreqs.l0 k1 (x3_1 ++ [rd y733 bt736.1]) (wrap64 (x4_1 - 1)) s0_0 bt736.2.1 bt736.2.2) else (none)) else (none)) else (none))) = some (r1, r2, r3) := by first | (rw [hy733]; with_reducible exact H) | (have H2_ := (Option.bind_some _ _).symm.trans H; rw [hy733]; with_reducible exact H2_) | (have H2_ := (Option.bind_some _ _).symm.trans H; with_reducible exact H2_) | with_reducible exact H | (rw [hy733]; exact H) | exact H
     have Ny733 := Aside0.mk hy733
     clear hy733
     replace H := Option.bind_eq_some_iff.mp H
     obtain ⟨⟨t736, t737, t738⟩, A120, H⟩ := H
     replace H : (if 0 ≤ t736 then (if t736 < (y733.length : Int) then (if x3_1.length < 17592186044416 then (spec_l08DrawFreqs.l0 k1 (x3_1 ++ [rd y733 t736]) (wrap64 (x4_1 - 1)) s0_0 t737 t738) else (none)) else (none)) else (none)) = some (r1, r2, r3) := H
     have A12 := Aside0.mk A120
     clear A120
     by_cases c13 : 0 ≤ t736
     ·rw [if_pos c13] at H
      have c13b0 : decide (0 ≤ t736) = true := decide_eq_true c13
      clear c13
      by_cases c14 : t736 < (y733.length : Int)
      ·rw [if_pos c14] at H
       have c14b0 : decide (t736 < (y733.length : Int)) = true := decide_eq_true c14
       clear c14
       by_cases c15 : x3_1.length < 17592186044416
       ·rw [if_pos c15] at H
        have LMc15 := Aside0.mk c15
        clear c15
        obtain ⟨y740, hy740⟩ : ∃ y_ : List Int, y_ = (x3_1 ++ [rd y733 t736]) := ⟨_, rfl⟩
        replace H : (spec_l08DrawFreqs.l0 k1 y740 (wrap64 (x4_1 - 1)) s0_0 t737 t738) = some (r1, r2, r3) := by first | (rw [hy740]; with_reducible exact H) | (have H2_ := (Option.bind_some _ _).symm.trans H; rw [hy740]; with_reducible exact H2_) | (have H2_ := (Option.bind_some _ _).symm.trans H; with_reducible exact H2_) | with_reducible exact H | (rw [hy740]; exact H) | exact H
        have Ny740 := Aside0.mk hy740
        clear hy740
        have H' := Aside0.mk H
        clear H
        obtain ⟨Ao16, co16, eo16⟩ := Kd.R_slice HO_3.out
        subst eo16
        try go_wp2
        have pi739 : (0 ≤ (t736 : Int)) = True := eq_true (of_decide_eq_true (by first | (with_reducible assumption) | assumption))
        have qi739 : (t736 < (y733.length : Int)) = True := eq_true (of_decide_eq_true (by first | (with_reducible assumption) | assumption))
        have n0_ := Aside0.mk (Kd.R_drew HO_3.out)
        have n1_ := Aside0.mk (IsS150.drew HI0.out)
        have n2_ := Aside0.mk (keep_drew HK.out)
        have n3_ := Aside0.mk (below_drew1 HB.out)
        clear HO_3
        clear HI0
        clear HK
        clear HB
        have HO_3 := n0_
        have HI0 := n1_
        have HK := n2_
        have HB := n3_
        clear n0_ n1_ n2_ n3_
        refine start_ (n := 16) (S := fun w' => True) (ds := []) #[false, false, false, false, false, false, false, false, false, false, false, false, false, false, false, false] (by kernel_rfl) rfl rfl trivial (fun hHeld => ?_); refine with_tabW spec_l08DrawFreqs.tab5 spec_l08DrawFreqs.bits5 (fun HT_ HW_ => ?_)
        generalize wr.drew = w17 at HO_3 HI0 HK HB hHeld ⊢
        refine pure_ (i := 0) (N := some 18) (v := ?_) (a' := ?_) #[true, false, false, false, false, false, false, false, false, false, false, false, false, false, false, false] rfl rfl (any_of HT_.out (by kernel_rfl)) (fun _ _ _ h => h) (Or.inl ⟨by rfl, ?_⟩) ?_ ?_
        rotate_left
        ·intro w'
         go_simp
         with_reducible rfl
        rotate_left
        ·simp only [Act.put, List.setIfInBounds_toArray, List.set_cons_zero, List.set_cons_succ, i64_w, i32_w]
         rfl
        refine pure_ (i := 1) (N := some 19) (v := ?_) (a' := ?_) #[true, true, false, false, false, false, false, false, false, false, false, false, false, false, false, false] rfl rfl (any_of HT_.out (by kernel_rfl)) (fun _ _ _ h => h) (Or.inl ⟨by rfl, ?_⟩) ?_ ?_
        rotate_left
        ·intro w'
         go_simp
         with_reducible rfl
        rotate_left
        ·simp only [Act.put, List.setIfInBounds_toArray, List.set_cons_zero, List.set_cons_succ, i64_w, i32_w]
         rfl
        refine pure_ (i := 3) (N := some 21) (v := ?_) (a' := ?_) #[true, true, false, true, false, false, false, false, false, false, false, false, false, false, false, false] rfl rfl (any_of HT_.out (by kernel_rfl)) (fun _ _ _ h => h) (Or.inl ⟨by rfl, ?_⟩) ?_ ?_
        rotate_left
        ·intro w'
         go_simp
         with_reducible rfl
        rotate_left
        ·simp only [Act.put, List.setIfInBounds_toArray, List.set_cons_zero, List.set_cons_succ, i64_w, i32_w]
         rfl
        refine pure_ (i := 5) (N := some 23) (v := ?_) (a' := ?_) #[true, true, false, true, false, true, false, false, false, false, false, false, false, false, false, false] rfl rfl (any_of HT_.out (by kernel_rfl)) (fun _ _ _ h => h) (Or.inl ⟨by rfl, ?_⟩) ?_ ?_
        rotate_left
        ·intro w'
         go_simp
         with_reducible rfl
        rotate_left
        ·simp only [Act.put, List.setIfInBounds_toArray, List.set_cons_zero, List.set_cons_succ, i64_w, i32_w]
         rfl
        refine pure_ (i := 9) (N := some 27) (v := ?_) (a' := ?_) #[true, true, false, true, false, true, false, false, false, true, false, false, false, false, false, false] rfl rfl (any_of HT_.out (by kernel_rfl)) (fun _ _ _ h => h) (Or.inl ⟨by rfl, ?_⟩) ?_ ?_
        rotate_left
        ·intro w'
         go_simp
         with_reducible rfl
        rotate_left
        ·simp only [Act.put, List.setIfInBounds_toArray, List.set_cons_zero, List.set_cons_succ, i64_w, i32_w]
         rfl
        refine one_ (i := 2) (N := some 20) #[true, true, true, true, false, true, false, false, false, true, false, false, false, false, false, false] rfl rfl (one_of HT_.out (by kernel_rfl)) (by decide) (fun K hK => ?_)
        refine goes_ Try.func85 (by kernel_rfl) rfl #[.pointer (some ⟨g, 0, none⟩), .int .i64 9] (by rfl) rfl rfl (by (try simp only [List.map_toArray, List.map_cons, List.map_nil]); first | done | rfl | (simp only [List.length_drop, List.length_take]; rfl)) ?_
        with_reducible refine (spec_l01Cur_pick.calls g s0_0 x1001_1 x1002_1 9 t724 t725 t726 w0 _ ?side1 ?side2 A7.out).mono ?_
        (case side1 => repeat (first | (with_reducible first | exact HI0.out | apply IsS150.alloc | apply IsS150.drewN | apply IsS150.drew | apply IsS150.set_1 | apply IsS150.set_2) | exact HI0.out))
        (case side2 => repeat (first | (with_reducible first | exact HB.out | apply below_alloc | apply pw_below_drewN | apply below_drew1 | refine below_set ?_ (IsS150.ge HI0.out)) | exact HB.out))
        rintro e w18 ⟨rfl, hi, hb, hk⟩
        refine ⟨_, rfl, ?_⟩
        have n0_ := Aside0.mk (Kd.R_mono (Kd.R_keep (IsS150.apart (show IsS150 w0 _ g s0_0 x1001_1 x1002_1 from by repeat (first | (with_reducible first | exact HI0.out | apply IsS150.alloc | apply IsS150.drewN | apply IsS150.drew | apply IsS150.set_1 | apply IsS150.set_2) | exact HI0.out)) (by (with_reducible repeat (first | apply Kd.R_alloc | apply Kd.R_drewN | apply Kd.R_drew)); exact HO_3.out) (by decide)) hk (fun _ h => h.2)) (fun _ h => h.1))
        have n1_ := Aside0.mk (KeepBut.trans (by repeat (first | (with_reducible first | exact HK.out | apply KeepBut.set_ | apply keep_drewN | apply keep_drew | apply keep_alloc) | exact HK.out)) hk (.inl rfl))
        have n2_ := Aside0.mk (hb)
        have n3_ := Aside0.mk (hi)
        clear HO_3
        clear HK
        clear HB
        clear HI0
        have HO_3 := n0_
        have HK := n1_
        have HB := n2_
        have HI0 := n3_
        clear n0_ n1_ n2_ n3_
        (try clear hb)
        (try clear hb2)
        (try clear hk)
        (try clear hi)
        refine hK.out _ _ trivial (fun hHeld => ?_)
        clear hK K
        refine norm_ (a' := ?_) ?_ ?_
        rotate_left
        ·show Act.put _ (some 20) _ = _
         simp only [Act.put, List.setIfInBounds_toArray, List.set_cons_zero, List.set_cons_succ, i64_w, i32_w]
         rfl
        refine one_ (i := 4) (N := some 22) #[true, true, true, true, true, true, false, false, false, true, false, false, false, false, false, false] rfl rfl (one_of HT_.out (by kernel_rfl)) (by decide) (fun K hK => ?_)
        refine goes_ Try.func85 (by kernel_rfl) rfl #[.pointer (some ⟨g, 0, none⟩), .int .i64 300] (by rfl) rfl rfl (by (try simp only [List.map_toArray, List.map_cons, List.map_nil]); first | done | rfl | (simp only [List.length_drop, List.length_take]; rfl)) ?_
        with_reducible refine (spec_l01Cur_pick.calls g s0_0 t725 t726 300 t727 t728 t729 w0 _ ?side1 ?side2 A8.out).mono ?_
        (case side1 => repeat (first | (with_reducible first | exact HI0.out | apply IsS150.alloc | apply IsS150.drewN | apply IsS150.drew | apply IsS150.set_1 | apply IsS150.set_2) | exact HI0.out))
        (case side2 => repeat (first | (with_reducible first | exact HB.out | apply below_alloc | apply pw_below_drewN | apply below_drew1 | refine below_set ?_ (IsS150.ge HI0.out)) | exact HB.out))
        rintro e w19 ⟨rfl, hi, hb, hk⟩
        refine ⟨_, rfl, ?_⟩
        have n0_ := Aside0.mk (Kd.R_mono (Kd.R_keep (IsS150.apart (show IsS150 w0 _ g s0_0 t725 t726 from by repeat (first | (with_reducible first | exact HI0.out | apply IsS150.alloc | apply IsS150.drewN | apply IsS150.drew | apply IsS150.set_1 | apply IsS150.set_2) | exact HI0.out)) (by (with_reducible repeat (first | apply Kd.R_alloc | apply Kd.R_drewN | apply Kd.R_drew)); exact HO_3.out) (by decide)) hk (fun _ h => h.2)) (fun _ h => h.1))
        have n1_ := Aside0.mk (KeepBut.trans (by repeat (first | (with_reducible first | exact HK.out | apply KeepBut.set_ | apply keep_drewN | apply keep_drew | apply keep_alloc) | exact HK.out)) hk (.inl rfl))
        have n2_ := Aside0.mk (hb)
        have n3_ := Aside0.mk (hi)
        clear HO_3
        clear HK
        clear HB
        clear HI0
        have HO_3 := n0_
        have HK := n1_
        have HB := n2_
        have HI0 := n3_
        clear n0_ n1_ n2_ n3_
        (try clear hb)
        (try clear hb2)
        (try clear hk)
        (try clear hi)
        refine hK.out _ _ trivial (fun hHeld => ?_)
        clear hK K
        refine norm_ (a' := ?_) ?_ ?_
        rotate_left
        ·show Act.put _ (some 22) _ = _
         simp only [Act.put, List.setIfInBounds_toArray, List.set_cons_zero, List.set_cons_succ, i64_w, i32_w]
         rfl
        refine one_ (i := 6) (N := some 24) #[true, true, true, true, true, true, true, false, false, true, false, false, false, false, false, false] rfl rfl (one_of HT_.out (by kernel_rfl)) (by decide) (fun K hK => ?_)
        refine goes_ Try.func85 (by kernel_rfl) rfl #[.pointer (some ⟨g, 0, none⟩), .int .i64 19] (by rfl) rfl rfl (by (try simp only [List.map_toArray, List.map_cons, List.map_nil]); first | done | rfl | (simp only [List.length_drop, List.length_take]; rfl)) ?_
        with_reducible refine (spec_l01Cur_pick.calls g s0_0 t728 t729 19 t730 t731 t732 w0 _ ?side1 ?side2 A9.out).mono ?_
        (case side1 => repeat (first | (with_reducible first | exact HI0.out | apply IsS150.alloc | apply IsS150.drewN | apply IsS150.drew | apply IsS150.set_1 | apply IsS150.set_2) | exact HI0.out))
        (case side2 => repeat (first | (with_reducible first | exact HB.out | apply below_alloc | apply pw_below_drewN | apply below_drew1 | refine below_set ?_ (IsS150.ge HI0.out)) | exact HB.out))
        rintro e w20 ⟨rfl, hi, hb, hk⟩
        refine ⟨_, rfl, ?_⟩
        have n0_ := Aside0.mk (Kd.R_mono (Kd.R_keep (IsS150.apart (show IsS150 w0 _ g s0_0 t728 t729 from by repeat (first | (with_reducible first | exact HI0.out | apply IsS150.alloc | apply IsS150.drewN | apply IsS150.drew | apply IsS150.set_1 | apply IsS150.set_2) | exact HI0.out)) (by (with_reducible repeat (first | apply Kd.R_alloc | apply Kd.R_drewN | apply Kd.R_drew)); exact HO_3.out) (by decide)) hk (fun _ h => h.2)) (fun _ h => h.1))
        have n1_ := Aside0.mk (KeepBut.trans (by repeat (first | (with_reducible first | exact HK.out | apply KeepBut.set_ | apply keep_drewN | apply keep_drew | apply keep_alloc) | exact HK.out)) hk (.inl rfl))
        have n2_ := Aside0.mk (hb)
        have n3_ := Aside0.mk (hi)
        clear HO_3
        clear HK
        clear HB
        clear HI0
        have HO_3 := n0_
        have HK := n1_
        have HB := n2_
        have HI0 := n3_
        clear n0_ n1_ n2_ n3_
        (try clear hb)
        (try clear hb2)
        (try clear hk)
        (try clear hi)
        refine hK.out _ _ trivial (fun hHeld => ?_)
        clear hK K
        refine norm_ (a' := ?_) ?_ ?_
        rotate_left
        ·show Act.put _ (some 24) _ = _
         simp only [Act.put, List.setIfInBounds_toArray, List.set_cons_zero, List.set_cons_succ, i64_w, i32_w]
         rfl
        refine pure_ (i := 7) (N := some 25) (v := ?_) (a' := ?_) #[true, true, true, true, true, true, true, true, false, true, false, false, false, false, false, false] rfl rfl (any_of HT_.out (by kernel_rfl)) (fun _ _ _ h => h) (Or.inl ⟨by rfl, ?_⟩) ?_ ?_
        rotate_left
        ·intro w'
         go_simp
         with_reducible rfl
        rotate_left
        ·simp only [Act.put, List.setIfInBounds_toArray, List.set_cons_zero, List.set_cons_succ, i64_w, i32_w]
         rfl
        refine join_ (σ := Value × Addr) 5 #[true, true, true, true, true, true, true, true, true, true, true, false, false, false, false, false] (fun s_ => [(26, s_.1), (28, .int .i64 t736)]) (fun s_ w' => (Kd.R (Kd.int .i64) 3 w' w.heap.size (fun k_ => some k_ ≠ (.slice Ao16 x3_1.length co16 : Value).ownBlock) s_.1 y733) ∧ (Kd.R (Kd.int .i64) 3 w' w.heap.size (fun k_ => some k_ ≠ (s_.1 : Value).ownBlock) (.slice Ao16 x3_1.length co16) x3_1) ∧ (∃ c_, (s_.1 : Value) = .slice (some s_.2) y733.length c_) ∧ (IsS150 w0 w' g s0_0 t737 t738) ∧ (KeepBut w w' g none) ∧ (Below w0.heap.size w0 w')) ?_ ?_
        rotate_left
        ·intro hCont
         refine two_ (i := 8) (j := 10) (Ni := some 26) (Nj := some 28) #[true, true, true, true, true, true, true, true, true, true, false, false, false, false, false, false] #[true, true, true, true, true, true, true, true, false, true, true, false, false, false, false, false] rfl rfl rfl rfl (two_of HT_.out (by kernel_rfl)) (by decide) (by decide) (fun K hK => ?_) (fun K hK => ?_)
         ·skip
          refine Kd.R_lit_step (Kd.int .i64) _ 3 ?hg (N := 26) ?hd (xs := ([0, 1, t724, t727, ji11] : List Int)) (inner := [.int .i64 0, .int .i64 1, .int .i64 t724, .int .i64 t727, .int .i64 ji11]) (ok := fun _ => True) (okp := fun _ => True) ?hr ?hp (fun _ hk => hk) trivial (Below.refl _ _) (Nat.le_refl _) (by simp) ?_; (case hd => rfl); (case hg => rfl); (case hr => first | (go_simp; done) | (go_simp; rfl)); (case hp => exact (Reps.one (show Kd.M (Kd.int .i64) _ _ _ 0 [.int .i64 0] from rfl) (Reps.one (show Kd.M (Kd.int .i64) _ _ _ 1 [.int .i64 1] from rfl) (Reps.one (show Kd.M (Kd.int .i64) _ _ _ t724 [.int .i64 t724] from rfl) (Reps.one (show Kd.M (Kd.int .i64) _ _ _ t727 [.int .i64 t727] from rfl) (Reps.one (show Kd.M (Kd.int .i64) _ _ _ ji11 [.int .i64 ji11] from rfl) (Reps.none _ _)))))))
          intro v734 w21 ho22 hb hg_ hnew_
          clear hg_ hnew_
          (first | rw [← Ny733.out] at ho22 | (simp only [Int.reduceToNat] at ho22; rw [← Ny733.out] at ho22))
          have n0_ := Aside0.mk (Kd.R_elder' (by (with_reducible repeat (first | apply Kd.R_alloc | apply Kd.R_drewN | apply Kd.R_drew)); exact HO_3.out) (Kd.R_base ho22) hb)
          have n1_ := Aside0.mk (Kd.R_lower (Kd.R_new' ho22 (Kd.R_lt (by (with_reducible repeat (first | apply Kd.R_alloc | apply Kd.R_drewN | apply Kd.R_drew)); exact HO_3.out))) (keep_size (w := w) (g := g) (row := none) (by repeat (first | (with_reducible first | exact HK.out | apply KeepBut.set_ | apply keep_drewN | apply keep_drew | apply keep_alloc) | exact HK.out))))
          have n2_ := Aside0.mk (IsS150.below (by repeat (first | (with_reducible first | exact HI0.out | apply IsS150.alloc | apply IsS150.drewN | apply IsS150.drew | apply IsS150.set_1 | apply IsS150.set_2) | exact HI0.out)) hb)
          have n3_ := Aside0.mk (KeepBut.trans (by repeat (first | (with_reducible first | exact HK.out | apply KeepBut.set_ | apply keep_drewN | apply keep_drew | apply keep_alloc) | exact HK.out)) (KeepBut.of_below hb g none) (.inl rfl))
          have n4_ := Aside0.mk (below_step (by repeat (first | (with_reducible first | exact HB.out | apply below_alloc | apply pw_below_drewN | apply below_drew1 | refine below_set ?_ (IsS150.ge HI0.out)) | exact HB.out)) hb)
          clear HO_3
          clear HI0
          clear HK
          clear HB
          have HO_3 := n0_
          have HO735 := n1_
          have HI0 := n2_
          have HK := n3_
          have HB := n4_
          clear n0_ n1_ n2_ n3_ n4_
          clear hb ho22
          obtain ⟨Ao23, co23, eo23⟩ := Kd.R_slice HO735.out
          subst eo23
          obtain ⟨ado23, fo23, _⟩ := Kd.at_int (Kd.R_reads' HO735.out).2.2 0 (by decide) (by rw [Ny733.out]; simp)
          cases fo23
          refine hK.out _ _ trivial (fun hHeld => ?_)
          clear hK K
          refine norm_ (a' := ?_) ?_ ?_
          rotate_left
          ·show Act.put _ (some 26) _ = _
           simp only [Act.put, List.setIfInBounds_toArray, List.set_cons_zero, List.set_cons_succ, i64_w, i32_w]
           rfl
          refine one_ (i := 10) (N := some 28) #[true, true, true, true, true, true, true, true, true, true, true, false, false, false, false, false] rfl rfl (one_of HT_.out (by kernel_rfl)) (by decide) (fun K hK => ?_)
          refine goes_ Try.func85 (by kernel_rfl) rfl #[.pointer (some ⟨g, 0, none⟩), .int .i64 5] (by rfl) rfl rfl (by (try simp only [List.map_toArray, List.map_cons, List.map_nil]); first | done | rfl | (simp only [List.length_drop, List.length_take]; rfl)) ?_
          with_reducible refine (spec_l01Cur_pick.calls g s0_0 t731 t732 5 t736 t737 t738 w0 _ ?side1 ?side2 A12.out).mono ?_
          (case side1 => repeat (first | (with_reducible first | exact HI0.out | apply IsS150.alloc | apply IsS150.drewN | apply IsS150.drew | apply IsS150.set_1 | apply IsS150.set_2) | exact HI0.out))
          (case side2 => repeat (first | (with_reducible first | exact HB.out | apply below_alloc | apply pw_below_drewN | apply below_drew1 | refine below_set ?_ (IsS150.ge HI0.out)) | exact HB.out))
          rintro e w24 ⟨rfl, hi, hb, hk⟩
          refine ⟨_, rfl, ?_⟩
          have n0_ := Aside0.mk (Kd.R_mono (Kd.R_keep (IsS150.apart (show IsS150 w0 _ g s0_0 t731 t732 from by repeat (first | (with_reducible first | exact HI0.out | apply IsS150.alloc | apply IsS150.drewN | apply IsS150.drew | apply IsS150.set_1 | apply IsS150.set_2) | exact HI0.out)) (by (with_reducible repeat (first | apply Kd.R_alloc | apply Kd.R_drewN | apply Kd.R_drew)); exact HO_3.out) (by decide)) hk (fun _ h => h.2)) (fun _ h => h.1))
          have n1_ := Aside0.mk (Kd.R_mono (Kd.R_keep (IsS150.apart (show IsS150 w0 _ g s0_0 t731 t732 from by repeat (first | (with_reducible first | exact HI0.out | apply IsS150.alloc | apply IsS150.drewN | apply IsS150.drew | apply IsS150.set_1 | apply IsS150.set_2) | exact HI0.out)) (by (with_reducible repeat (first | apply Kd.R_alloc | apply Kd.R_drewN | apply Kd.R_drew)); exact HO735.out) (by decide)) hk (fun _ h => h.2)) (fun _ h => h.1))
          have n2_ := Aside0.mk (KeepBut.trans (by repeat (first | (with_reducible first | exact HK.out | apply KeepBut.set_ | apply keep_drewN | apply keep_drew | apply keep_alloc) | exact HK.out)) hk (.inl rfl))
          have n3_ := Aside0.mk (hb)
          have n4_ := Aside0.mk (hi)
          clear HO_3
          clear HO735
          clear HK
          clear HB
          clear HI0
          have HO_3 := n0_
          have HO735 := n1_
          have HK := n2_
          have HB := n3_
          have HI0 := n4_
          clear n0_ n1_ n2_ n3_ n4_
          (try clear hb)
          (try clear hb2)
          (try clear hk)
          (try clear hi)
          refine hK.out _ _ trivial (fun hHeld => ?_)
          clear hK K
          refine norm_ (a' := ?_) ?_ ?_
          rotate_left
          ·show Act.put _ (some 28) _ = _
           simp only [Act.put, List.setIfInBounds_toArray, List.set_cons_zero, List.set_cons_succ, i64_w, i32_w]
           rfl
          exact norm_ (by simp only [putAll, Act.put, List.setIfInBounds_toArray, List.set_cons_zero, List.set_cons_succ]) (hCont (.slice (some ado23) y733.length co23, ado23) _ ⟨(by (with_reducible repeat (first | apply Kd.R_alloc | apply Kd.R_drewN | apply Kd.R_drew)); exact Kd.R_mono HO735.out (fun _ hk => hk.2)), (by (with_reducible repeat (first | apply Kd.R_alloc | apply Kd.R_drewN | apply Kd.R_drew)); exact Kd.R_mono HO_3.out (fun _ hk => hk.2)), ⟨_, rfl⟩, (by repeat (first | (with_reducible first | exact HI0.out | apply IsS150.alloc | apply IsS150.drewN | apply IsS150.drew | apply IsS150.set_1 | apply IsS150.set_2) | exact HI0.out)), (by repeat (first | (with_reducible first | exact HK.out | apply KeepBut.set_ | apply keep_drewN | apply keep_drew | apply keep_alloc) | exact HK.out)), (by repeat (first | (with_reducible first | exact HB.out | apply below_alloc | apply pw_below_drewN | apply below_drew1 | refine below_set ?_ (IsS150.ge HI0.out)) | exact HB.out))⟩)
         ·skip
          refine goes_ Try.func85 (by kernel_rfl) rfl #[.pointer (some ⟨g, 0, none⟩), .int .i64 5] (by rfl) rfl rfl (by (try simp only [List.map_toArray, List.map_cons, List.map_nil]); first | done | rfl | (simp only [List.length_drop, List.length_take]; rfl)) ?_
          with_reducible refine (spec_l01Cur_pick.calls g s0_0 t731 t732 5 t736 t737 t738 w0 _ ?side1 ?side2 A12.out).mono ?_
          (case side1 => repeat (first | (with_reducible first | exact HI0.out | apply IsS150.alloc | apply IsS150.drewN | apply IsS150.drew | apply IsS150.set_1 | apply IsS150.set_2) | exact HI0.out))
          (case side2 => repeat (first | (with_reducible first | exact HB.out | apply below_alloc | apply pw_below_drewN | apply below_drew1 | refine below_set ?_ (IsS150.ge HI0.out)) | exact HB.out))
          rintro e w21 ⟨rfl, hi, hb, hk⟩
          refine ⟨_, rfl, ?_⟩
          have n0_ := Aside0.mk (Kd.R_mono (Kd.R_keep (IsS150.apart (show IsS150 w0 _ g s0_0 t731 t732 from by repeat (first | (with_reducible first | exact HI0.out | apply IsS150.alloc | apply IsS150.drewN | apply IsS150.drew | apply IsS150.set_1 | apply IsS150.set_2) | exact HI0.out)) (by (with_reducible repeat (first | apply Kd.R_alloc | apply Kd.R_drewN | apply Kd.R_drew)); exact HO_3.out) (by decide)) hk (fun _ h => h.2)) (fun _ h => h.1))
          have n1_ := Aside0.mk (KeepBut.trans (by repeat (first | (with_reducible first | exact HK.out | apply KeepBut.set_ | apply keep_drewN | apply keep_drew | apply keep_alloc) | exact HK.out)) hk (.inl rfl))
          have n2_ := Aside0.mk (hb)
          have n3_ := Aside0.mk (hi)
          clear HO_3
          clear HK
          clear HB
          clear HI0
          have HO_3 := n0_
          have HK := n1_
          have HB := n2_
          have HI0 := n3_
          clear n0_ n1_ n2_ n3_
          (try clear hb)
          (try clear hb2)
          (try clear hk)
          (try clear hi)
          refine hK.out _ _ trivial (fun hHeld => ?_)
          clear hK K
          refine norm_ (a' := ?_) ?_ ?_
          rotate_left
          ·show Act.put _ (some 28) _ = _
           simp only [Act.put, List.setIfInBounds_toArray, List.set_cons_zero, List.set_cons_succ, i64_w, i32_w]
           rfl
          refine one_ (i := 8) (N := some 26) #[true, true, true, true, true, true, true, true, true, true, true, false, false, false, false, false] rfl rfl (one_of HT_.out (by kernel_rfl)) (by decide) (fun K hK => ?_)
          refine Kd.R_lit_step (Kd.int .i64) _ 3 ?hg (N := 26) ?hd (xs := ([0, 1, t724, t727, ji11] : List Int)) (inner := [.int .i64 0, .int .i64 1, .int .i64 t724, .int .i64 t727, .int .i64 ji11]) (ok := fun _ => True) (okp := fun _ => True) ?hr ?hp (fun _ hk => hk) trivial (Below.refl _ _) (Nat.le_refl _) (by simp) ?_; (case hd => rfl); (case hg => rfl); (case hr => first | (go_simp; done) | (go_simp; rfl)); (case hp => exact (Reps.one (show Kd.M (Kd.int .i64) _ _ _ 0 [.int .i64 0] from rfl) (Reps.one (show Kd.M (Kd.int .i64) _ _ _ 1 [.int .i64 1] from rfl) (Reps.one (show Kd.M (Kd.int .i64) _ _ _ t724 [.int .i64 t724] from rfl) (Reps.one (show Kd.M (Kd.int .i64) _ _ _ t727 [.int .i64 t727] from rfl) (Reps.one (show Kd.M (Kd.int .i64) _ _ _ ji11 [.int .i64 ji11] from rfl) (Reps.none _ _)))))))
          intro v734 w22 ho23 hb hg_ hnew_
          clear hg_ hnew_
          (first | rw [← Ny733.out] at ho23 | (simp only [Int.reduceToNat] at ho23; rw [← Ny733.out] at ho23))
          have n0_ := Aside0.mk (Kd.R_elder' (by (with_reducible repeat (first | apply Kd.R_alloc | apply Kd.R_drewN | apply Kd.R_drew)); exact HO_3.out) (Kd.R_base ho23) hb)
          have n1_ := Aside0.mk (Kd.R_lower (Kd.R_new' ho23 (Kd.R_lt (by (with_reducible repeat (first | apply Kd.R_alloc | apply Kd.R_drewN | apply Kd.R_drew)); exact HO_3.out))) (keep_size (w := w) (g := g) (row := none) (by repeat (first | (with_reducible first | exact HK.out | apply KeepBut.set_ | apply keep_drewN | apply keep_drew | apply keep_alloc) | exact HK.out))))
          have n2_ := Aside0.mk (IsS150.below (by repeat (first | (with_reducible first | exact HI0.out | apply IsS150.alloc | apply IsS150.drewN | apply IsS150.drew | apply IsS150.set_1 | apply IsS150.set_2) | exact HI0.out)) hb)
          have n3_ := Aside0.mk (KeepBut.trans (by repeat (first | (with_reducible first | exact HK.out | apply KeepBut.set_ | apply keep_drewN | apply keep_drew | apply keep_alloc) | exact HK.out)) (KeepBut.of_below hb g none) (.inl rfl))
          have n4_ := Aside0.mk (below_step (by repeat (first | (with_reducible first | exact HB.out | apply below_alloc | apply pw_below_drewN | apply below_drew1 | refine below_set ?_ (IsS150.ge HI0.out)) | exact HB.out)) hb)
          clear HO_3
          clear HI0
          clear HK
          clear HB
          have HO_3 := n0_
          have HO735 := n1_
          have HI0 := n2_
          have HK := n3_
          have HB := n4_
          clear n0_ n1_ n2_ n3_ n4_
          clear hb ho23
          obtain ⟨Ao24, co24, eo24⟩ := Kd.R_slice HO735.out
          subst eo24
          obtain ⟨ado24, fo24, _⟩ := Kd.at_int (Kd.R_reads' HO735.out).2.2 0 (by decide) (by rw [Ny733.out]; simp)
          cases fo24
          refine hK.out _ _ trivial (fun hHeld => ?_)
          clear hK K
          refine norm_ (a' := ?_) ?_ ?_
          rotate_left
          ·show Act.put _ (some 26) _ = _
           simp only [Act.put, List.setIfInBounds_toArray, List.set_cons_zero, List.set_cons_succ, i64_w, i32_w]
           rfl
          exact norm_ (by simp only [putAll, Act.put, List.setIfInBounds_toArray, List.set_cons_zero, List.set_cons_succ]) (hCont (.slice (some ado24) y733.length co24, ado24) _ ⟨(by (with_reducible repeat (first | apply Kd.R_alloc | apply Kd.R_drewN | apply Kd.R_drew)); exact Kd.R_mono HO735.out (fun _ hk => hk.2)), (by (with_reducible repeat (first | apply Kd.R_alloc | apply Kd.R_drewN | apply Kd.R_drew)); exact Kd.R_mono HO_3.out (fun _ hk => hk.2)), ⟨_, rfl⟩, (by repeat (first | (with_reducible first | exact HI0.out | apply IsS150.alloc | apply IsS150.drewN | apply IsS150.drew | apply IsS150.set_1 | apply IsS150.set_2) | exact HI0.out)), (by repeat (first | (with_reducible first | exact HK.out | apply KeepBut.set_ | apply keep_drewN | apply keep_drew | apply keep_alloc) | exact HK.out)), (by repeat (first | (with_reducible first | exact HB.out | apply below_alloc | apply pw_below_drewN | apply below_drew1 | refine below_set ?_ (IsS150.ge HI0.out)) | exact HB.out))⟩)
        rintro ⟨v734, adz_v734⟩ w25 ⟨h0_, h1_, h2_, h3_, h4_, h5_⟩
        have n0_ : Aside0 (Kd.R (Kd.int .i64) 3 w25 w.heap.size (fun k_ => some k_ ≠ (.slice Ao16 x3_1.length co16 : Value).ownBlock) v734 y733) := ⟨h0_⟩
        have n1_ : Aside0 (Kd.R (Kd.int .i64) 3 w25 w.heap.size (fun k_ => some k_ ≠ (v734 : Value).ownBlock) (.slice Ao16 x3_1.length co16) x3_1) := ⟨h1_⟩
        have n2_ : Aside0 (∃ c_, (v734 : Value) = .slice (some adz_v734) y733.length c_) := ⟨h2_⟩
        have n3_ : Aside0 (IsS150 w0 w25 g s0_0 t737 t738) := ⟨h3_⟩
        have n4_ : Aside0 (KeepBut w w25 g none) := ⟨h4_⟩
        have n5_ : Aside0 (Below w0.heap.size w0 w25) := ⟨h5_⟩
        clear HO_3
        clear HI0
        clear HK
        clear HB
        clear h0_ h1_ h2_ h3_ h4_ h5_
        have HO735 := n0_
        have HO_3 := n1_
        have HA_HO735 := n2_
        have HI0 := n3_
        have HK := n4_
        have HB := n5_
        clear n0_ n1_ n2_ n3_ n4_ n5_
        have hHeld := trivial
        obtain ⟨co26, eo26⟩ := HA_HO735.out
        clear HA_HO735
        subst eo26
        refine norm_ (a' := ?_) ?_ ?_
        rotate_left
        ·simp only [putAll, Act.put, List.setIfInBounds_toArray, List.set_cons_zero, List.set_cons_succ]
         rfl
        refine pure_ (i := 11) (N := some 29) (v := ?_) (a' := ?_) #[true, true, true, true, true, true, true, true, true, true, true, true, false, false, false, false] rfl rfl (any_of HT_.out (by kernel_rfl)) (fun _ _ _ h => h) (Or.inl ⟨by rfl, ?_⟩) ?_ ?_
        rotate_left
        ·intro w'
         go_simp
         with_reducible rfl
        rotate_left
        ·simp only [Act.put, List.setIfInBounds_toArray, List.set_cons_zero, List.set_cons_succ, i64_w, i32_w]
         rfl
        refine one_ (i := 12) (N := some 30) #[true, true, true, true, true, true, true, true, true, true, true, true, true, false, false, false] rfl rfl (one_of HT_.out (by kernel_rfl)) (by decide) (fun K hK => ?_)
        (have p739 : 0 ≤ (t736 : Int) := of_decide_eq_true (by first | (with_reducible assumption) | assumption); have q739 : t736 < (y733.length : Int) := of_decide_eq_true (by first | (with_reducible assumption) | assumption); obtain ⟨ad739, e739, hx739_0⟩ := Kd.at_int (Kd.R_reads' HO735.out).2.2 t736 p739 q739; obtain rfl : adz_v734 = ad739 := (by injection e739))
        refine value_ (w1 := ?_) (v := ?_) (by rfl) rfl ?_ ?_
        rotate_left 2
        ·go_simp
         constructor
         ·rfl
         ·rfl
        clear hx739_0
        refine hK.out _ _ trivial (fun hHeld => ?_)
        clear hK K
        refine norm_ (a' := ?_) ?_ ?_
        rotate_left
        ·show Act.put _ (some 30) _ = _
         simp only [Act.put, List.setIfInBounds_toArray, List.set_cons_zero, List.set_cons_succ, i64_w, i32_w]
         rfl
        refine one_ (i := 13) (N := some 31) #[true, true, true, true, true, true, true, true, true, true, true, true, true, true, false, false] rfl rfl (one_of HT_.out (by kernel_rfl)) (by decide) (fun K hK => ?_)
        refine value_ (w1 := ?_) (v := ?_) (by rfl) rfl ?_ ?_
        rotate_left 2
        ·go_simp
         constructor
         ·rfl
         ·rfl
        refine hK.out _ _ trivial (fun hHeld => ?_)
        clear hK K
        refine norm_ (a' := ?_) ?_ ?_
        rotate_left
        ·show Act.put _ (some 31) _ = _
         simp only [Act.put, List.setIfInBounds_toArray, List.set_cons_zero, List.set_cons_succ, i64_w, i32_w]
         rfl
        refine one_ (i := 14) (N := some 32) #[true, true, true, true, true, true, true, true, true, true, true, true, true, true, true, false] rfl rfl (one_of HT_.out (by kernel_rfl)) (by decide) (fun K hK => ?_)
        refine Kd.R_append_step (Kd.int .i64) w.heap.size (by rfl) (.tmp 18) (.tmp 31) 22 3 (.int .i64 0) 8 rfl Try.underlying22 info3 rfl (by decide) (by omega) (.slice Ao16 x3_1.length co16) x3_1 (rd y733 t736) [.int .i64 (rd y733 t736)] (fun k_ => some k_ ≠ (.slice (some adz_v734) y733.length co26 : Value).ownBlock) (fun _ => False) rfl rfl ?aP (fun _ hk => hk.elim) ?aF ?aO (Below.refl _ _) ?aS ?aL ?_
        (case aP => exact rfl)
        (case aF => exact (fun k_ hk => Kd.fresh' (Kd.R_lt (by (with_reducible repeat (first | apply Kd.R_alloc | apply Kd.R_drewN | apply Kd.R_drew)); exact HO735.out)) k_ hk))
        (case aO => exact (by (with_reducible repeat (first | apply Kd.R_alloc | apply Kd.R_drewN | apply Kd.R_drew)); exact HO_3.out))
        (case aS => exact (keep_size (w := w) (g := g) (row := none) (by repeat (first | (with_reducible first | exact HK.out | apply KeepBut.set_ | apply keep_drewN | apply keep_drew | apply keep_alloc) | exact HK.out))))
        (case aL => have := LMc15.out; omega)
        intro v741 w27 ho hb hg hat
        rw [← Ny740.out] at ho
        have n0_ := Aside0.mk (IsS150.grown (by repeat (first | (with_reducible first | exact HI0.out | apply IsS150.alloc | apply IsS150.drewN | apply IsS150.drew | apply IsS150.set_1 | apply IsS150.set_2) | exact HI0.out)) hg (IsS150.own_ne HI0.out HO_3.out (by decide)))
        have n1_ := Aside0.mk (Kd.R_after (ok := (fun _ => True)) (by (with_reducible repeat (first | apply Kd.R_alloc | apply Kd.R_drewN | apply Kd.R_drew)); exact Kd.R_mono HO735.out (fun _ hk => ⟨trivial, hk⟩)) hg hat)
        have n2_ := Aside0.mk (below_weaken (by repeat (first | (with_reducible first | exact HB.out | apply below_alloc | apply pw_below_drewN | apply below_drew1 | refine below_set ?_ (IsS150.ge HI0.out)) | exact HB.out)) HL.out hb)
        have n3_ := Aside0.mk (KeepBut.trans (by repeat (first | (with_reducible first | exact HK.out | apply KeepBut.set_ | apply keep_drewN | apply keep_drew | apply keep_alloc) | exact HK.out)) (KeepBut.of_grown hg g) (Kd.R_base2 HO_3.out))
        have n4_ := Aside0.mk (ho)
        clear HI0
        clear HO735
        clear HB
        clear HK
        clear HO_3
        have HI0 := n0_
        have HO735 := n1_
        have HB := n2_
        have HK := n3_
        have HO742 := n4_
        clear n0_ n1_ n2_ n3_ n4_
        clear ho hb hg hat
        refine hK.out _ _ trivial (fun hHeld => ?_)
        clear hK K
        refine norm_ (a' := ?_) ?_ ?_
        rotate_left
        ·show Act.put _ (some 32) _ = _
         simp only [Act.put, List.setIfInBounds_toArray, List.set_cons_zero, List.set_cons_succ, i64_w, i32_w]
         rfl
        refine pure_ (i := 15) (N := some 3) (v := ?_) (a' := ?_) #[true, true, true, true, true, true, true, true, true, true, true, true, true, true, true, true] rfl rfl (any_of HT_.out (by kernel_rfl)) (fun _ _ _ h => h) (Or.inl ⟨by rfl, ?_⟩) ?_ ?_
        rotate_left
        ·intro w'
         go_simp
         with_reducible rfl
        rotate_left
        ·simp only [Act.put, List.setIfInBounds_toArray, List.set_cons_zero, List.set_cons_succ, i64_w, i32_w]
         rfl
        refine done_ (done_of HT_.out (by kernel_rfl)) ?_
        try go_wp2
        go_roundg k1
        case measure => have := HK1.out; omega
        case rel => exact ⟨(y740), (wrap64 (x4_1 - 1)), (t737), (t738), (by first | rfl | (simp; done) | (simp [*]; done)), H', ⟨by have := HK1.out; omega⟩, ⟨by (with_reducible repeat (first | apply Kd.R_alloc | apply Kd.R_drewN | apply Kd.R_drew)); exact Kd.R_mono HO742.out (fun _ hk => trivial)⟩, ⟨by repeat (first | (with_reducible first | exact HI0.out | apply IsS150.alloc | apply IsS150.drewN | apply IsS150.drew | apply IsS150.set_1 | apply IsS150.set_2) | exact HI0.out)⟩, ⟨by repeat (first | (with_reducible first | exact HK.out | apply KeepBut.set_ | apply keep_drewN | apply keep_drew | apply keep_alloc) | exact HK.out)⟩, ⟨by repeat (first | (with_reducible first | exact HB.out | apply below_alloc | apply pw_below_drewN | apply below_drew1 | refine below_set ?_ (IsS150.ge HI0.out)) | exact HB.out)⟩⟩
       ·rw [if_neg c15] at H
        exact absurd H (by simp)
      ·rw [if_neg c14] at H
       exact absurd H (by simp)
     ·rw [if_neg c13] at H
      exact absurd H (by simp)
    ·rw [if_neg c10] at H
     exact absurd H (by simp)
   ·rw [if_neg c6] at H
    have c6b0 : decide (0 < x4_1) = false := decide_eq_false c6
    clear c6
    replace H := Option.bind_eq_some_iff.mp H
    obtain ⟨⟨t743, t744, t745⟩, A280, H⟩ := H
    replace H : (if t743 = 0 then ((spec_l01Cur_pick.f s0_0 t744 t745 (x3_1.length : Int)).bind fun bt746 => ((spec_l01Cur_odd.f s0_0 bt746.2.1 bt746.2.2).bind fun bt749 => ((some (([(-1), 1000000, 1000001, bt749.1] : List Int) : List Int)).bind fun y752 => ((spec_l01Cur_pick.f s0_0 bt749.2.1 bt749.2.2 4).bind fun bt755 => (if 0 ≤ bt755.1 then (if bt755.1 < (y752.length : Int) then (if 0 ≤ bt746.1 then (if bt746.1 < (x3_1.length : Int) then (some ((x3_1.set (bt746.1 : Int).toNat (rd y752 bt755.1)), bt755.2.1, bt755.2.2)) else (none)) else (none)) else (none)) else (none)))))) else (if t743 = 1 then (spec_l08DrawFreqs.l1 k1 x3_1 0 s0_0 t744 t745) else (if t743 = 2 then (spec_l08DrawFreqs.l2 k1 (([] : List Int)) 1 1 0 s0_0 t744 t745) else (if t743 = 3 then (spec_l08DrawFreqs.l3 k1 x3_1 s0_0 t744 t745) else (some (x3_1, t744, t745)))))) = some (r1, r2, r3) := H
    have A28 := Aside0.mk A280
    clear A280
    by_cases c29 : t743 = 0
    ·rw [if_pos c29] at H
     have c29b0 : (t743 == 0) = true := beq_iff_eq.mpr c29
     have c29b1 : (t743 != 0) = false := bne_eq_false_iff_eq.mpr c29
     clear c29
     replace H := Option.bind_eq_some_iff.mp H
     obtain ⟨⟨t746, t747, t748⟩, A300, H⟩ := H
     replace H : ((spec_l01Cur_odd.f s0_0 t747 t748).bind fun bt749 => ((some (([(-1), 1000000, 1000001, bt749.1] : List Int) : List Int)).bind fun y752 => ((spec_l01Cur_pick.f s0_0 bt749.2.1 bt749.2.2 4).bind fun bt755 => (if 0 ≤ bt755.1 then (if bt755.1 < (y752.length : Int) then (if 0 ≤ t746 then (if t746 < (x3_1.length : Int) then (some ((x3_1.set (t746 : Int).toNat (rd y752 bt755.1)), bt755.2.1, bt755.2.2)) else (none)) else (none)) else (none)) else (none))))) = some (r1, r2, r3) := H
     have A30 := Aside0.mk A300
     clear A300
     replace H := Option.bind_eq_some_iff.mp H
     obtain ⟨⟨t749, t750, t751⟩, A310, H⟩ := H
     replace H : ((some (([(-1), 1000000, 1000001, t749] : List Int) : List Int)).bind fun y752 => ((spec_l01Cur_pick.f s0_0 t750 t751 4).bind fun bt755 => (if 0 ≤ bt755.1 then (if bt755.1 < (y752.length : Int) then (if 0 ≤ t746 then (if t746 < (x3_1.length : Int) then (some ((x3_1.set (t746 : Int).toNat (rd y752 bt755.1)), bt755.2.1, bt755.2.2)) else (none)) else (none)) else (none)) else (none)))) = some (r1, r2, r3) := H
     have A31 := Aside0.mk A310
     clear A310
     obtain ⟨y752, hy752⟩ : ∃ y_ : List Int, y_ = (([(-1), 1000000, 1000001, t749] : List Int)) := ⟨_, rfl⟩
     replace H : ((spec_l01Cur_pick.f s0_0 t750 t751 4).bind fun bt755 => (if 0 ≤ bt755.1 then (if bt755.1 < (y752.length : Int) then (if 0 ≤ t746 then (if t746 < (x3_1.length : Int) then (some ((x3_1.set (t746 : Int).toNat (rd y752 bt755.1)), bt755.2.1, bt755.2.2)) else (none)) else (none)) else (none)) else (none))) = some (r1, r2, r3) := by first | (rw [hy752]; with_reducible exact H) | (have H2_ := (Option.bind_some _ _).symm.trans H; rw [hy752]; with_reducible exact H2_) | (have H2_ := (Option.bind_some _ _).symm.trans H; with_reducible exact H2_) | with_reducible exact H | (rw [hy752]; exact H) | exact H
     have Ny752 := Aside0.mk hy752
     clear hy752
     replace H := Option.bind_eq_some_iff.mp H
     obtain ⟨⟨t755, t756, t757⟩, A320, H⟩ := H
     replace H : (if 0 ≤ t755 then (if t755 < (y752.length : Int) then (if 0 ≤ t746 then (if t746 < (x3_1.length : Int) then (some ((x3_1.set (t746 : Int).toNat (rd y752 t755)), t756, t757)) else (none)) else (none)) else (none)) else (none)) = some (r1, r2, r3) := H
     have A32 := Aside0.mk A320
     clear A320
     by_cases c33 : 0 ≤ t755
     ·rw [if_pos c33] at H
      have c33b0 : decide (0 ≤ t755) = true := decide_eq_true c33
      clear c33
      by_cases c34 : t755 < (y752.length : Int)
      ·rw [if_pos c34] at H
       have c34b0 : decide (t755 < (y752.length : Int)) = true := decide_eq_true c34
       clear c34
       by_cases c35 : 0 ≤ t746
       ·rw [if_pos c35] at H
        have c35b0 : decide (0 ≤ t746) = true := decide_eq_true c35
        clear c35
        by_cases c36 : t746 < (x3_1.length : Int)
        ·rw [if_pos c36] at H
         have c36b0 : decide (t746 < (x3_1.length : Int)) = true := decide_eq_true c36
         clear c36
         obtain ⟨y759, hy759⟩ : ∃ y_ : List Int, y_ = (x3_1.set (t746 : Int).toNat (rd y752 t755)) := ⟨_, rfl⟩
         replace H : (some (y759, t756, t757)) = some (r1, r2, r3) := by first | (rw [hy759]; with_reducible exact H) | (have H2_ := (Option.bind_some _ _).symm.trans H; rw [hy759]; with_reducible exact H2_) | (have H2_ := (Option.bind_some _ _).symm.trans H; with_reducible exact H2_) | with_reducible exact H | (rw [hy759]; exact H) | exact H
         have Ny759 := Aside0.mk hy759
         clear hy759
         simp only [Option.some.injEq, Prod.mk.injEq] at H
         obtain ⟨rfl, rfl, rfl⟩ := H
         go_wp2_with (first | ((with_reducible refine gate_callee (f := 85) rfl ?_); refine goesL_ (some 34) rfl rfl Try.func85 (by kernel_rfl) rfl #[.pointer (some ⟨g, 0, none⟩), .int .i64 14] rfl (by (try simp only [List.map_toArray, List.map_cons, List.map_nil]); first | done | rfl | (simp only [List.length_drop, List.length_take]; rfl)) ?_; (with_reducible refine (spec_l01Cur_pick.calls g s0_0 x1001_1 x1002_1 14 t743 t744 t745 w0 _ ?side1 ?side2 A28.out).mono ?_); (case side1 => repeat (first | (with_reducible first | exact HI0.out | apply IsS150.alloc | apply IsS150.drewN | apply IsS150.drew | apply IsS150.set_1 | apply IsS150.set_2) | exact HI0.out)); (case side2 => repeat (first | (with_reducible first | exact HB.out | apply below_alloc | apply pw_below_drewN | apply below_drew1 | refine below_set ?_ (IsS150.ge HI0.out)) | exact HB.out)); rintro e w38 ⟨rfl, hi, hb, hk⟩; refine ⟨_, rfl, ?_⟩; have n0_ := Aside0.mk (Kd.R_mono (Kd.R_keep (IsS150.apart (show IsS150 w0 _ g s0_0 x1001_1 x1002_1 from by repeat (first | (with_reducible first | exact HI0.out | apply IsS150.alloc | apply IsS150.drewN | apply IsS150.drew | apply IsS150.set_1 | apply IsS150.set_2) | exact HI0.out)) (by (with_reducible repeat (first | apply Kd.R_alloc | apply Kd.R_drewN | apply Kd.R_drew)); exact HO_3.out) (by decide)) hk (fun _ h => h.2)) (fun _ h => h.1)); have n1_ := Aside0.mk (KeepBut.trans (by repeat (first | (with_reducible first | exact HK.out | apply KeepBut.set_ | apply keep_drewN | apply keep_drew | apply keep_alloc) | exact HK.out)) hk (.inl rfl)); have n2_ := Aside0.mk (hb); have n3_ := Aside0.mk (hi); clear HO_3; clear HK; clear HB; clear HI0; have HO_3 := n0_; have HK := n1_; have HB := n2_; have HI0 := n3_; clear n0_ n1_ n2_ n3_; (try clear hb); (try clear hb2); (try clear hk); (try clear hi); obtain ⟨Ao39, co39, eo39⟩ := Kd.R_slice HO_3.out; subst eo39) | ((with_reducible refine gate_callee (f := 85) rfl ?_); refine goesL_ (some 41) rfl rfl Try.func85 (by kernel_rfl) rfl #[.pointer (some ⟨g, 0, none⟩), .int .i64 (x3_1.length : Int)] rfl (by (try simp only [List.map_toArray, List.map_cons, List.map_nil]); first | done | rfl | (simp only [List.length_drop, List.length_take]; rfl)) ?_; (with_reducible refine (spec_l01Cur_pick.calls g s0_0 t744 t745 (x3_1.length : Int) t746 t747 t748 w0 _ ?side1 ?side2 A30.out).mono ?_); (case side1 => repeat (first | (with_reducible first | exact HI0.out | apply IsS150.alloc | apply IsS150.drewN | apply IsS150.drew | apply IsS150.set_1 | apply IsS150.set_2) | exact HI0.out)); (case side2 => repeat (first | (with_reducible first | exact HB.out | apply below_alloc | apply pw_below_drewN | apply below_drew1 | refine below_set ?_ (IsS150.ge HI0.out)) | exact HB.out)); rintro e w40 ⟨rfl, hi, hb, hk⟩; refine ⟨_, rfl, ?_⟩; have n0_ := Aside0.mk (Kd.R_mono (Kd.R_keep (IsS150.apart (show IsS150 w0 _ g s0_0 t744 t745 from by repeat (first | (with_reducible first | exact HI0.out | apply IsS150.alloc | apply IsS150.drewN | apply IsS150.drew | apply IsS150.set_1 | apply IsS150.set_2) | exact HI0.out)) (by (with_reducible repeat (first | apply Kd.R_alloc | apply Kd.R_drewN | apply Kd.R_drew)); exact HO_3.out) (by decide)) hk (fun _ h => h.2)) (fun _ h => h.1)); have n1_ := Aside0.mk (KeepBut.trans (by repeat (first | (with_reducible first | exact HK.out | apply KeepBut.set_ | apply keep_drewN | apply keep_drew | apply keep_alloc) | exact HK.out)) hk (.inl rfl)); have n2_ := Aside0.mk (hb); have n3_ := Aside0.mk (hi); clear HO_3; clear HK; clear HB; clear HI0; have HO_3 := n0_; have HK := n1_; have HB := n2_; have HI0 := n3_; clear n0_ n1_ n2_ n3_; (try clear hb); (try clear hb2); (try clear hk); (try clear hi)) | ((with_reducible refine gate_callee (f := 114) rfl ?_); refine goesL_ (some 43) rfl rfl Try.func114 (by kernel_rfl) rfl #[.pointer (some ⟨g, 0, none⟩)] rfl (by (try simp only [List.map_toArray, List.map_cons, List.map_nil]); first | done | rfl | (simp only [List.length_drop, List.length_take]; rfl)) ?_; (with_reducible refine (spec_l01Cur_odd.calls g s0_0 t747 t748 t749 t750 t751 w0 _ ?side1 ?side2 A31.out).mono ?_); (case side1 => repeat (first | (with_reducible first | exact HI0.out | apply IsS150.alloc | apply IsS150.drewN | apply IsS150.drew | apply IsS150.set_1 | apply IsS150.set_2) | exact HI0.out)); (case side2 => repeat (first | (with_reducible first | exact HB.out | apply below_alloc | apply pw_below_drewN | apply below_drew1 | refine below_set ?_ (IsS150.ge HI0.out)) | exact HB.out)); rintro e w41 ⟨rfl, hi, hb, hk⟩; refine ⟨_, rfl, ?_⟩; have n0_ := Aside0.mk (Kd.R_mono (Kd.R_keep (IsS150.apart (show IsS150 w0 _ g s0_0 t747 t748 from by repeat (first | (with_reducible first | exact HI0.out | apply IsS150.alloc | apply IsS150.drewN | apply IsS150.drew | apply IsS150.set_1 | apply IsS150.set_2) | exact HI0.out)) (by (with_reducible repeat (first | apply Kd.R_alloc | apply Kd.R_drewN | apply Kd.R_drew)); exact HO_3.out) (by decide)) hk (fun _ h => h.2)) (fun _ h => h.1)); have n1_ := Aside0.mk (KeepBut.trans (by repeat (first | (with_reducible first | exact HK.out | apply KeepBut.set_ | apply keep_drewN | apply keep_drew | apply keep_alloc) | exact HK.out)) hk (.inl rfl)); have n2_ := Aside0.mk (hb); have n3_ := Aside0.mk (hi); clear HO_3; clear HK; clear HB; clear HI0; have HO_3 := n0_; have HK := n1_; have HB := n2_; have HI0 := n3_; clear n0_ n1_ n2_ n3_; (try clear hb); (try clear hb2); (try clear hk); (try clear hi)) | ((with_reducible refine gate_dst (N := 44) rfl ?_); refine Kd.R_lit (Kd.int .i64) _ 3 ?hg (N := 44) ?hd (xs := ([(-1), 1000000, 1000001, t749] : List Int)) (inner := [.int .i64 (-1), .int .i64 1000000, .int .i64 1000001, .int .i64 t749]) (ok := fun _ => True) (okp := fun _ => True) ?hr ?hp (fun _ hk => hk) trivial (Below.refl _ _) (Nat.le_refl _) (by simp) ?_; (case hd => rfl); (case hg => rfl); (case hr => first | (go_simp; done) | (go_simp; rfl)); (case hp => exact (Reps.one (show Kd.M (Kd.int .i64) _ _ _ (-1) [.int .i64 (-1)] from rfl) (Reps.one (show Kd.M (Kd.int .i64) _ _ _ 1000000 [.int .i64 1000000] from rfl) (Reps.one (show Kd.M (Kd.int .i64) _ _ _ 1000001 [.int .i64 1000001] from rfl) (Reps.one (show Kd.M (Kd.int .i64) _ _ _ t749 [.int .i64 t749] from rfl) (Reps.none _ _)))))); intro v753 w42 ho43 hb hg_ hnew_; clear hg_ hnew_; (first | rw [← Ny752.out] at ho43 | (simp only [Int.reduceToNat] at ho43; rw [← Ny752.out] at ho43)); have n0_ := Aside0.mk (Kd.R_elder' (by (with_reducible repeat (first | apply Kd.R_alloc | apply Kd.R_drewN | apply Kd.R_drew)); exact HO_3.out) (Kd.R_base ho43) hb); have n1_ := Aside0.mk (Kd.R_lower (Kd.R_new' ho43 (Kd.R_lt (by (with_reducible repeat (first | apply Kd.R_alloc | apply Kd.R_drewN | apply Kd.R_drew)); exact HO_3.out))) (keep_size (w := w) (g := g) (row := none) (by repeat (first | (with_reducible first | exact HK.out | apply KeepBut.set_ | apply keep_drewN | apply keep_drew | apply keep_alloc) | exact HK.out)))); have n2_ := Aside0.mk (IsS150.below (by repeat (first | (with_reducible first | exact HI0.out | apply IsS150.alloc | apply IsS150.drewN | apply IsS150.drew | apply IsS150.set_1 | apply IsS150.set_2) | exact HI0.out)) hb); have n3_ := Aside0.mk (KeepBut.trans (by repeat (first | (with_reducible first | exact HK.out | apply KeepBut.set_ | apply keep_drewN | apply keep_drew | apply keep_alloc) | exact HK.out)) (KeepBut.of_below hb g none) (.inl rfl)); have n4_ := Aside0.mk (below_step (by repeat (first | (with_reducible first | exact HB.out | apply below_alloc | apply pw_below_drewN | apply below_drew1 | refine below_set ?_ (IsS150.ge HI0.out)) | exact HB.out)) hb); clear HO_3; clear HI0; clear HK; clear HB; have HO_3 := n0_; have HO754 := n1_; have HI0 := n2_; have HK := n3_; have HB := n4_; clear n0_ n1_ n2_ n3_ n4_; clear hb ho43) | ((with_reducible refine gate_callee (f := 85) rfl ?_); refine goesL_ (some 46) rfl rfl Try.func85 (by kernel_rfl) rfl #[.pointer (some ⟨g, 0, none⟩), .int .i64 4] rfl (by (try simp only [List.map_toArray, List.map_cons, List.map_nil]); first | done | rfl | (simp only [List.length_drop, List.length_take]; rfl)) ?_; (with_reducible refine (spec_l01Cur_pick.calls g s0_0 t750 t751 4 t755 t756 t757 w0 _ ?side1 ?side2 A32.out).mono ?_); (case side1 => repeat (first | (with_reducible first | exact HI0.out | apply IsS150.alloc | apply IsS150.drewN | apply IsS150.drew | apply IsS150.set_1 | apply IsS150.set_2) | exact HI0.out)); (case side2 => repeat (first | (with_reducible first | exact HB.out | apply below_alloc | apply pw_below_drewN | apply below_drew1 | refine below_set ?_ (IsS150.ge HI0.out)) | exact HB.out)); rintro e w44 ⟨rfl, hi, hb, hk⟩; refine ⟨_, rfl, ?_⟩; have n0_ := Aside0.mk (Kd.R_mono (Kd.R_keep (IsS150.apart (show IsS150 w0 _ g s0_0 t750 t751 from by repeat (first | (with_reducible first | exact HI0.out | apply IsS150.alloc | apply IsS150.drewN | apply IsS150.drew | apply IsS150.set_1 | apply IsS150.set_2) | exact HI0.out)) (by (with_reducible repeat (first | apply Kd.R_alloc | apply Kd.R_drewN | apply Kd.R_drew)); exact HO_3.out) (by decide)) hk (fun _ h => h.2)) (fun _ h => h.1)); have n1_ := Aside0.mk (Kd.R_mono (Kd.R_keep (IsS150.apart (show IsS150 w0 _ g s0_0 t750 t751 from by repeat (first | (with_reducible first | exact HI0.out | apply IsS150.alloc | apply IsS150.drewN | apply IsS150.drew | apply IsS150.set_1 | apply IsS150.set_2) | exact HI0.out)) (by (with_reducible repeat (first | apply Kd.R_alloc | apply Kd.R_drewN | apply Kd.R_drew)); exact HO754.out) (by decide)) hk (fun _ h => h.2)) (fun _ h => h.1)); have n2_ := Aside0.mk (KeepBut.trans (by repeat (first | (with_reducible first | exact HK.out | apply KeepBut.set_ | apply keep_drewN | apply keep_drew | apply keep_alloc) | exact HK.out)) hk (.inl rfl)); have n3_ := Aside0.mk (hb); have n4_ := Aside0.mk (hi); clear HO_3; clear HO754; clear HK; clear HB; clear HI0; have HO_3 := n0_; have HO754 := n1_; have HK := n2_; have HB := n3_; have HI0 := n4_; clear n0_ n1_ n2_ n3_ n4_; (try clear hb); (try clear hb2); (try clear hk); (try clear hi); obtain ⟨Ao45, co45, eo45⟩ := Kd.R_slice HO754.out; subst eo45; have p758 : 0 ≤ (t755 : Int) := of_decide_eq_true (by first | (with_reducible assumption) | assumption); have q758 : t755 < (y752.length : Int) := of_decide_eq_true (by first | (with_reducible assumption) | assumption); obtain ⟨ad758, e758, hx758_0⟩ := Kd.at_int (Kd.R_reads' HO754.out).2.2 t755 p758 q758; cases e758; replace p758 := eq_true p758; replace q758 := eq_true q758; have p37 : 0 ≤ (t746 : Int) := of_decide_eq_true (by first | (with_reducible assumption) | assumption); have q37 : (t746 : Int) < ((x3_1.length : Int) : Int) := of_decide_eq_true (by first | (with_reducible assumption) | assumption); obtain ⟨go37, co37, eo37, gb37, gl37, cl37, HG37⟩ := Kd.R_form HO_3.out (by omega); (first | cases eo37 | (injection eo37 with ea_ en_ ec_; (first | subst ea_ | (injection ea_ with ea_; subst ea_)); subst ec_; clear en_)); have GB37 := Aside0.mk gb37; have GG37 := Aside0.mk HG37; clear gb37 gl37 HG37; obtain ⟨hx37_0, hf37_0⟩ := Kd.R_celln 0 HO_3.out (t746 : Int) p37 q37; replace p37 := eq_true p37; replace q37 := eq_true q37; have n_ := Aside0.mk (Kd.R_mono (ok' := (fun k_ => some k_ ≠ (.slice (some ad758) y752.length co45 : Value).ownBlock)) HO_3.out (fun k_ hk => hk.2)); clear HO_3; have HO_3 := n_; clear n_; obtain ⟨hy46_, hz46_⟩ := Kd.R_celln 0 HO_3.out (t746 : Int) (of_decide_eq_true (by first | (with_reducible assumption) | assumption)) (of_decide_eq_true (by first | (with_reducible assumption) | assumption)); have HP46 := Kd.R_putg HO_3.out (t746 : Int) (rd y752 t755)) | ((with_reducible refine gate_store (t := 3) (p := 49) rfl ?_); refine store_event (t := 3) (p := 49) (v := ?vo_w47) (w1 := (w44.setCell ⟨go37, (t746 : Int).toNat, none⟩ (.int .i64 (rd y752 t755)))) ?hg ?ho ?hn ?hr ?_; (case ho => rfl); (case hg => rfl); (case hn => rfl); (case hr => first | (go_simp; done) | (go_simp; rfl)); intro w47 hw; have hg : w44.grownBy w47 (some go37) := (by rw [hw]; exact HP46.2); have hp_ : Kd.R (Kd.int .i64) 3 w47 w.heap.size (fun k_ => some k_ ≠ (.slice (some ad758) y752.length co45 : Value).ownBlock) (.slice (some ⟨go37, 0, none⟩) x3_1.length co39) y759 := (by rw [hw, Ny759.out]; exact HP46.1); clear HP46; have n0_ := Aside0.mk (hp_); have n1_ := Aside0.mk (IsS150.grown (by repeat (first | (with_reducible first | exact HI0.out | apply IsS150.alloc | apply IsS150.drewN | apply IsS150.drew | apply IsS150.set_1 | apply IsS150.set_2) | exact HI0.out)) hg (IsS150.own_ne HI0.out HO_3.out (by decide))); have n2_ := Aside0.mk (Kd.R_after (v := (.slice (some ⟨go37, 0, none⟩) x3_1.length co39)) (v1 := (.slice (some ⟨go37, 0, none⟩) x3_1.length co39)) (ok := (fun _ => True)) (by (with_reducible repeat (first | apply Kd.R_alloc | apply Kd.R_drewN | apply Kd.R_drew)); exact HO754.out) hg (.inl rfl)); have n3_ := Aside0.mk ((by rw [hw]; exact below_set (HB.out) (Nat.le_trans HL.out GB37.out) : Below w0.heap.size w0 w47)); have n4_ := Aside0.mk (KeepBut.trans (by repeat (first | (with_reducible first | exact HK.out | apply KeepBut.set_ | apply keep_drewN | apply keep_drew | apply keep_alloc) | exact HK.out)) (KeepBut.of_grown hg g) (Kd.R_base2 HO_3.out)); clear HO_3; clear HI0; clear HO754; clear HB; clear HK; have HO_3 := n0_; have HI0 := n1_; have HO754 := n2_; have HB := n3_; have HK := n4_; clear n0_ n1_ n2_ n3_ n4_; clear hg hw hp_))
         go_ret
         exact ⟨_, by first | rfl | (simp [errW_none, errW_some] <;> rfl) | (simp [*, errW_none, errW_some] <;> rfl), by (with_reducible repeat (first | apply Kd.R_alloc | apply Kd.R_drewN | apply Kd.R_drew)); exact Kd.R_mono HO_3.out (fun _ hk => trivial), by repeat (first | (with_reducible first | exact HI0.out | apply IsS150.alloc | apply IsS150.drewN | apply IsS150.drew | apply IsS150.set_1 | apply IsS150.set_2) | exact HI0.out), by repeat (first | (with_reducible first | exact HB.out | apply below_alloc | apply pw_below_drewN | apply below_drew1 | refine below_set ?_ (IsS150.ge HI0.out)) | exact HB.out), by repeat (first | (with_reducible first | exact HK.out | apply KeepBut.set_ | apply keep_drewN | apply keep_drew | apply keep_alloc) | exact HK.out)⟩
        ·rw [if_neg c36] at H
         exact absurd H (by simp)
       ·rw [if_neg c35] at H
        exact absurd H (by simp)
      ·rw [if_neg c34] at H
       exact absurd H (by simp)
     ·rw [if_neg c33] at H
      exact absurd H (by simp)
    ·rw [if_neg c29] at H
     have c29b0 : (t743 == 0) = false := beq_eq_false_iff_ne.mpr c29
     have c29b1 : (t743 != 0) = true := bne_iff_ne.mpr c29
     by_cases c48 : t743 = 1
     ·rw [if_pos c48] at H
      have c48b0 : (t743 == 1) = true := beq_iff_eq.mpr c48
      have c48b1 : (t743 != 1) = false := bne_eq_false_iff_eq.mpr c48
      clear c48
      have H' := Aside0.mk H
      clear H
      go_wp2_with (first | ((with_reducible refine gate_callee (f := 85) rfl ?_); refine goesL_ (some 34) rfl rfl Try.func85 (by kernel_rfl) rfl #[.pointer (some ⟨g, 0, none⟩), .int .i64 14] rfl (by (try simp only [List.map_toArray, List.map_cons, List.map_nil]); first | done | rfl | (simp only [List.length_drop, List.length_take]; rfl)) ?_; (with_reducible refine (spec_l01Cur_pick.calls g s0_0 x1001_1 x1002_1 14 t743 t744 t745 w0 _ ?side1 ?side2 A28.out).mono ?_); (case side1 => repeat (first | (with_reducible first | exact HI0.out | apply IsS150.alloc | apply IsS150.drewN | apply IsS150.drew | apply IsS150.set_1 | apply IsS150.set_2) | exact HI0.out)); (case side2 => repeat (first | (with_reducible first | exact HB.out | apply below_alloc | apply pw_below_drewN | apply below_drew1 | refine below_set ?_ (IsS150.ge HI0.out)) | exact HB.out)); rintro e w49 ⟨rfl, hi, hb, hk⟩; refine ⟨_, rfl, ?_⟩; have n0_ := Aside0.mk (Kd.R_mono (Kd.R_keep (IsS150.apart (show IsS150 w0 _ g s0_0 x1001_1 x1002_1 from by repeat (first | (with_reducible first | exact HI0.out | apply IsS150.alloc | apply IsS150.drewN | apply IsS150.drew | apply IsS150.set_1 | apply IsS150.set_2) | exact HI0.out)) (by (with_reducible repeat (first | apply Kd.R_alloc | apply Kd.R_drewN | apply Kd.R_drew)); exact HO_3.out) (by decide)) hk (fun _ h => h.2)) (fun _ h => h.1)); have n1_ := Aside0.mk (KeepBut.trans (by repeat (first | (with_reducible first | exact HK.out | apply KeepBut.set_ | apply keep_drewN | apply keep_drew | apply keep_alloc) | exact HK.out)) hk (.inl rfl)); have n2_ := Aside0.mk (hb); have n3_ := Aside0.mk (hi); clear HO_3; clear HK; clear HB; clear HI0; have HO_3 := n0_; have HK := n1_; have HB := n2_; have HI0 := n3_; clear n0_ n1_ n2_ n3_; (try clear hb); (try clear hb2); (try clear hk); (try clear hi)))
      go_loopg [5] k1 (fun kq v5 w' => ∃ (x3_2 : List Int) (x5_2 : Int), v5 = .int .i64 x5_2 ∧ Aside0 (spec_l08DrawFreqs.l1 kq x3_2 x5_2 s0_0 t744 t745 = some (r1, r2, r3)) ∧ Aside0 (kq ≤ k1) ∧ Aside0 (Kd.R (Kd.int .i64) 3 w' w.heap.size (fun _ => True) u3 x3_2) ∧ Aside0 (IsS150 w0 w' g s0_0 t744 t745) ∧ Aside0 (KeepBut w w' g none) ∧ Aside0 (Below w0.heap.size w0 w'))
      case atStart => exact ⟨(x3_1), (0), (by first | rfl | (simp; done) | (simp [*]; done)), H', ⟨Nat.le_refl _⟩, ⟨by (with_reducible repeat (first | apply Kd.R_alloc | apply Kd.R_drewN | apply Kd.R_drew)); exact HO_3.out⟩, ⟨by repeat (first | (with_reducible first | exact HI0.out | apply IsS150.alloc | apply IsS150.drewN | apply IsS150.drew | apply IsS150.set_1 | apply IsS150.set_2) | exact HI0.out)⟩, ⟨by repeat (first | (with_reducible first | exact HK.out | apply KeepBut.set_ | apply keep_drewN | apply keep_drew | apply keep_alloc) | exact HK.out)⟩, ⟨by repeat (first | (with_reducible first | exact HB.out | apply below_alloc | apply pw_below_drewN | apply below_drew1 | refine below_set ?_ (IsS150.ge HI0.out)) | exact HB.out)⟩⟩
      case round =>
       clear H'
       try clear c1
       try clear c2
       try clear p2
       try clear c3
       try clear p3
       try clear q3
       try clear hx3
       try clear hf3
       try clear c4
       try clear c6
       try clear c6b0
       try clear p6
       try clear p7
       try clear q7
       try clear hx7
       try clear qi7
       try clear c8
       try clear c10
       try clear c10b0
       try clear c10b1
       try clear c11
       try clear c13
       try clear c13b0
       try clear c14
       try clear c14b0
       try clear c15
       try clear c29
       try clear c29b0
       try clear c29b1
       try clear c33
       try clear c33b0
       try clear c34
       try clear c34b0
       try clear c35
       try clear c35b0
       try clear c36
       try clear c36b0
       try clear p37
       try clear q37
       try clear hx37
       try clear hf37
       try clear c48
       try clear c48b0
       try clear c48b1
       try clear hx37_0
       try clear hx739_0
       try clear hx758_0
       try clear p2
       try clear p37
       try clear p739
       try clear p758
       try clear q37
       try clear q739
       try clear q758
       obtain ⟨x3_2, x5_2, rfl, HA, HK2, HO_3, HI0, HK, HB⟩ := hrel
       cases gk with
       | zero => exact absurd HA.out (by simp [spec_l08DrawFreqs.l1])
       | succ k2 =>
        have H := HA.out
        clear HA
        simp only [spec_l08DrawFreqs.l1] at H
        by_cases c50 : x5_2 < (x3_2.length : Int)
        ·rw [if_pos c50] at H
         have c50b0 : decide (x5_2 < (x3_2.length : Int)) = true := decide_eq_true c50
         clear c50
         by_cases c51 : 0 ≤ x5_2
         ·rw [if_pos c51] at H
          have c51b0 : decide (0 ≤ x5_2) = true := decide_eq_true c51
          clear c51
          obtain ⟨y760, hy760⟩ : ∃ y_ : List Int, y_ = (x3_2.set (x5_2 : Int).toNat 0) := ⟨_, rfl⟩
          replace H : (spec_l08DrawFreqs.l1 k2 y760 (wrap64 (x5_2 + 1)) s0_0 t744 t745) = some (r1, r2, r3) := by first | (rw [hy760]; with_reducible exact H) | (have H2_ := (Option.bind_some _ _).symm.trans H; rw [hy760]; with_reducible exact H2_) | (have H2_ := (Option.bind_some _ _).symm.trans H; with_reducible exact H2_) | with_reducible exact H | (rw [hy760]; exact H) | exact H
          have Ny760 := Aside0.mk hy760
          clear hy760
          have H' := Aside0.mk H
          clear H
          obtain ⟨Ao53, co53, eo53⟩ := Kd.R_slice HO_3.out
          subst eo53
          have p52 : 0 ≤ (x5_2 : Int) := of_decide_eq_true (by first | (with_reducible assumption) | assumption)
          have q52 : (x5_2 : Int) < ((x3_2.length : Int) : Int) := of_decide_eq_true (by first | (with_reducible assumption) | assumption)
          obtain ⟨go52, co52, eo52, gb52, gl52, cl52, HG52⟩ := Kd.R_form HO_3.out (by omega)
          (first | cases eo52 | (injection eo52 with ea_ en_ ec_; (first | subst ea_ | (injection ea_ with ea_; subst ea_)); subst ec_; clear en_))
          have GB52 := Aside0.mk gb52
          have GG52 := Aside0.mk HG52
          clear gb52 gl52 HG52
          obtain ⟨hx52_0, hf52_0⟩ := Kd.R_celln 0 HO_3.out (x5_2 : Int) p52 q52
          replace p52 := eq_true p52
          replace q52 := eq_true q52
          have HP54 := Kd.R_putg HO_3.out (x5_2 : Int) 0
          go_wp2_with (first | ((with_reducible refine gate_store (t := 3) (p := 60) rfl ?_); refine store_event (t := 3) (p := 60) (v := ?vo_w55) (w1 := (wr.setCell ⟨go52, (x5_2 : Int).toNat, none⟩ (.int .i64 0))) ?hg ?ho ?hn ?hr ?_; (case ho => rfl); (case hg => rfl); (case hn => rfl); (case hr => first | (go_simp; done) | (go_simp; rfl)); intro w55 hw; have hg : wr.grownBy w55 (some go52) := (by rw [hw]; exact HP54.2); have hp_ : Kd.R (Kd.int .i64) 3 w55 w.heap.size (fun _ => True) (.slice (some ⟨go52, 0, none⟩) x3_2.length co53) y760 := (by rw [hw, Ny760.out]; exact HP54.1); clear HP54; have n0_ := Aside0.mk (hp_); have n1_ := Aside0.mk (IsS150.grown (by repeat (first | (with_reducible first | exact HI0.out | apply IsS150.alloc | apply IsS150.drewN | apply IsS150.drew | apply IsS150.set_1 | apply IsS150.set_2) | exact HI0.out)) hg (IsS150.own_ne HI0.out HO_3.out (by decide))); have n2_ := Aside0.mk ((by rw [hw]; exact below_set (HB.out) (Nat.le_trans HL.out GB52.out) : Below w0.heap.size w0 w55)); have n3_ := Aside0.mk (KeepBut.trans (by repeat (first | (with_reducible first | exact HK.out | apply KeepBut.set_ | apply keep_drewN | apply keep_drew | apply keep_alloc) | exact HK.out)) (KeepBut.of_grown hg g) (Kd.R_base2 HO_3.out)); clear HO_3; clear HI0; clear HB; clear HK; have HO_3 := n0_; have HI0 := n1_; have HB := n2_; have HK := n3_; clear n0_ n1_ n2_ n3_; clear hg hw hp_))
          go_roundg k2
          case measure => have := HK1.out; have := HK2.out; omega
          case rel => exact ⟨(y760), (wrap64 (x5_2 + 1)), (by first | rfl | (simp; done) | (simp [*]; done)), H', ⟨by have := HK1.out; have := HK2.out; omega⟩, ⟨by (with_reducible repeat (first | apply Kd.R_alloc | apply Kd.R_drewN | apply Kd.R_drew)); exact HO_3.out⟩, ⟨by repeat (first | (with_reducible first | exact HI0.out | apply IsS150.alloc | apply IsS150.drewN | apply IsS150.drew | apply IsS150.set_1 | apply IsS150.set_2) | exact HI0.out)⟩, ⟨by repeat (first | (with_reducible first | exact HK.out | apply KeepBut.set_ | apply keep_drewN | apply keep_drew | apply keep_alloc) | exact HK.out)⟩, ⟨by repeat (first | (with_reducible first | exact HB.out | apply below_alloc | apply pw_below_drewN | apply below_drew1 | refine below_set ?_ (IsS150.ge HI0.out)) | exact HB.out)⟩⟩
         ·rw [if_neg c51] at H
          exact absurd H (by simp)
        ·rw [if_neg c50] at H
         have c50b0 : decide (x5_2 < (x3_2.length : Int)) = false := decide_eq_false c50
         clear c50
         simp only [Option.some.injEq, Prod.mk.injEq] at H
         obtain ⟨rfl, rfl, rfl⟩ := H
         obtain ⟨Ao56, co56, eo56⟩ := Kd.R_slice HO_3.out
         subst eo56
         go_wp2
         go_ret
         exact ⟨_, by first | rfl | (simp [errW_none, errW_some] <;> rfl) | (simp [*, errW_none, errW_some] <;> rfl), by (with_reducible repeat (first | apply Kd.R_alloc | apply Kd.R_drewN | apply Kd.R_drew)); exact HO_3.out, by repeat (first | (with_reducible first | exact HI0.out | apply IsS150.alloc | apply IsS150.drewN | apply IsS150.drew | apply IsS150.set_1 | apply IsS150.set_2) | exact HI0.out), by repeat (first | (with_reducible first | exact HB.out | apply below_alloc | apply pw_below_drewN | apply below_drew1 | refine below_set ?_ (IsS150.ge HI0.out)) | exact HB.out), by repeat (first | (with_reducible first | exact HK.out | apply KeepBut.set_ | apply keep_drewN | apply keep_drew | apply keep_alloc) | exact HK.out)⟩
     ·rw [if_neg c48] at H
      have c48b0 : (t743 == 1) = false := beq_eq_false_iff_ne.mpr c48
      have c48b1 : (t743 != 1) = true := bne_iff_ne.mpr c48
      by_cases c57 : t743 = 2
      ·rw [if_pos c57] at H
       have c57b0 : (t743 == 2) = true := beq_iff_eq.mpr c57
       have c57b1 : (t743 != 2) = false := bne_eq_false_iff_eq.mpr c57
       clear c57
       obtain ⟨y761, hy761⟩ : ∃ y_ : List Int, y_ = (([] : List Int)) := ⟨_, rfl⟩
       replace H : (spec_l08DrawFreqs.l2 k1 y761 1 1 0 s0_0 t744 t745) = some (r1, r2, r3) := by first | (rw [hy761]; with_reducible exact H) | (have H2_ := (Option.bind_some _ _).symm.trans H; rw [hy761]; with_reducible exact H2_) | (have H2_ := (Option.bind_some _ _).symm.trans H; with_reducible exact H2_) | with_reducible exact H | (rw [hy761]; exact H) | exact H
       have Ny761 := Aside0.mk hy761
       clear hy761
       have H' := Aside0.mk H
       clear H
       go_wp2_with (first | ((with_reducible refine gate_callee (f := 85) rfl ?_); refine goesL_ (some 34) rfl rfl Try.func85 (by kernel_rfl) rfl #[.pointer (some ⟨g, 0, none⟩), .int .i64 14] rfl (by (try simp only [List.map_toArray, List.map_cons, List.map_nil]); first | done | rfl | (simp only [List.length_drop, List.length_take]; rfl)) ?_; (with_reducible refine (spec_l01Cur_pick.calls g s0_0 x1001_1 x1002_1 14 t743 t744 t745 w0 _ ?side1 ?side2 A28.out).mono ?_); (case side1 => repeat (first | (with_reducible first | exact HI0.out | apply IsS150.alloc | apply IsS150.drewN | apply IsS150.drew | apply IsS150.set_1 | apply IsS150.set_2) | exact HI0.out)); (case side2 => repeat (first | (with_reducible first | exact HB.out | apply below_alloc | apply pw_below_drewN | apply below_drew1 | refine below_set ?_ (IsS150.ge HI0.out)) | exact HB.out)); rintro e w58 ⟨rfl, hi, hb, hk⟩; refine ⟨_, rfl, ?_⟩; have n0_ := Aside0.mk (Kd.R_mono (Kd.R_keep (IsS150.apart (show IsS150 w0 _ g s0_0 x1001_1 x1002_1 from by repeat (first | (with_reducible first | exact HI0.out | apply IsS150.alloc | apply IsS150.drewN | apply IsS150.drew | apply IsS150.set_1 | apply IsS150.set_2) | exact HI0.out)) (by (with_reducible repeat (first | apply Kd.R_alloc | apply Kd.R_drewN | apply Kd.R_drew)); exact HO_3.out) (by decide)) hk (fun _ h => h.2)) (fun _ h => h.1)); have n1_ := Aside0.mk (KeepBut.trans (by repeat (first | (with_reducible first | exact HK.out | apply KeepBut.set_ | apply keep_drewN | apply keep_drew | apply keep_alloc) | exact HK.out)) hk (.inl rfl)); have n2_ := Aside0.mk (hb); have n3_ := Aside0.mk (hi); clear HO_3; clear HK; clear HB; clear HI0; have HO_3 := n0_; have HK := n1_; have HB := n2_; have HI0 := n3_; clear n0_ n1_ n2_ n3_; (try clear hb); (try clear hb2); (try clear hk); (try clear hi)) | ((with_reducible refine gate_dst (N := 63) rfl ?_); refine Kd.R_lit (Kd.int .i64) _ 3 ?hg (N := 63) ?hd (xs := ([] : List Int)) (inner := []) (ok := fun _ => True) (okp := fun _ => True) ?hr ?hp (fun _ hk => hk) trivial (Below.refl _ _) (Nat.le_refl _) (by simp) ?_; (case hd => rfl); (case hg => rfl); (case hr => first | (go_simp; done) | (go_simp; rfl)); (case hp => exact (Reps.none _ _)); intro v762 w59 ho60 hb hg_ hnew_; clear hg_ hnew_; (first | rw [← Ny761.out] at ho60 | (simp only [Int.reduceToNat] at ho60; rw [← Ny761.out] at ho60)); have n0_ := Aside0.mk (Kd.R_elder' (by (with_reducible repeat (first | apply Kd.R_alloc | apply Kd.R_drewN | apply Kd.R_drew)); exact HO_3.out) (Kd.R_base ho60) hb); have n1_ := Aside0.mk (Kd.R_lower (Kd.R_new' ho60 (Kd.R_lt (by (with_reducible repeat (first | apply Kd.R_alloc | apply Kd.R_drewN | apply Kd.R_drew)); exact HO_3.out))) (keep_size (w := w) (g := g) (row := none) (by repeat (first | (with_reducible first | exact HK.out | apply KeepBut.set_ | apply keep_drewN | apply keep_drew | apply keep_alloc) | exact HK.out)))); have n2_ := Aside0.mk (IsS150.below (by repeat (first | (with_reducible first | exact HI0.out | apply IsS150.alloc | apply IsS150.drewN | apply IsS150.drew | apply IsS150.set_1 | apply IsS150.set_2) | exact HI0.out)) hb); have n3_ := Aside0.mk (KeepBut.trans (by repeat (first | (with_reducible first | exact HK.out | apply KeepBut.set_ | apply keep_drewN | apply keep_drew | apply keep_alloc) | exact HK.out)) (KeepBut.of_below hb g none) (.inl rfl)); have n4_ := Aside0.mk (below_step (by repeat (first | (with_reducible first | exact HB.out | apply below_alloc | apply pw_below_drewN | apply below_drew1 | refine below_set ?_ (IsS150.ge HI0.out)) | exact HB.out)) hb); clear HO_3; clear HI0; clear HK; clear HB; have HO_3 := n0_; have HO763 := n1_; have HI0 := n2_; have HK := n3_; have HB := n4_; clear n0_ n1_ n2_ n3_ n4_; clear hb ho60))
       go_loopg [3, 6, 7, 8] k1 (fun kq v3 v6 v7 v8 w' => ∃ (x3_2 : List Int) (x6_2 : Int) (x7_2 : Int) (x8_2 : Int), v6 = .int .i64 x6_2 ∧ v7 = .int .i64 x7_2 ∧ v8 = .int .i64 x8_2 ∧ Aside0 (spec_l08DrawFreqs.l2 kq x3_2 x6_2 x7_2 x8_2 s0_0 t744 t745 = some (r1, r2, r3)) ∧ Aside0 (kq ≤ k1) ∧ Aside0 (Kd.R (Kd.int .i64) 3 w' w.heap.size (fun _ => True) v3 x3_2) ∧ Aside0 (IsS150 w0 w' g s0_0 t744 t745) ∧ Aside0 (KeepBut w w' g none) ∧ Aside0 (Below w0.heap.size w0 w'))
       case atStart => exact ⟨(y761), (1), (1), (0), (by first | rfl | (simp; done) | (simp [*]; done)), (by first | rfl | (simp; done) | (simp [*]; done)), (by first | rfl | (simp; done) | (simp [*]; done)), H', ⟨Nat.le_refl _⟩, ⟨by (with_reducible repeat (first | apply Kd.R_alloc | apply Kd.R_drewN | apply Kd.R_drew)); exact Kd.R_mono HO763.out (fun _ hk => trivial)⟩, ⟨by repeat (first | (with_reducible first | exact HI0.out | apply IsS150.alloc | apply IsS150.drewN | apply IsS150.drew | apply IsS150.set_1 | apply IsS150.set_2) | exact HI0.out)⟩, ⟨by repeat (first | (with_reducible first | exact HK.out | apply KeepBut.set_ | apply keep_drewN | apply keep_drew | apply keep_alloc) | exact HK.out)⟩, ⟨by repeat (first | (with_reducible first | exact HB.out | apply below_alloc | apply pw_below_drewN | apply below_drew1 | refine below_set ?_ (IsS150.ge HI0.out)) | exact HB.out)⟩⟩
       case round =>
        clear H'
        try clear c1
        try clear c2
        try clear p2
        try clear c3
        try clear p3
        try clear q3
        try clear hx3
        try clear hf3
        try clear c4
        try clear c5
        try clear p5
        try clear q5
        try clear hx5
        try clear hf5
        try clear c6
        try clear c6b0
        try clear p6
        try clear p7
        try clear q7
        try clear hx7
        try clear qi7
        try clear c8
        try clear c10
        try clear c10b0
        try clear c10b1
        try clear c11
        try clear c13
        try clear c13b0
        try clear c14
        try clear c14b0
        try clear c15
        try clear c29
        try clear c29b0
        try clear c29b1
        try clear c33
        try clear c33b0
        try clear c34
        try clear c34b0
        try clear c35
        try clear c35b0
        try clear c36
        try clear c36b0
        try clear p37
        try clear q37
        try clear hx37
        try clear hf37
        try clear c48
        try clear c48b0
        try clear c48b1
        try clear c50
        try clear c50b0
        try clear c51
        try clear c51b0
        try clear p52
        try clear q52
        try clear hx52
        try clear hf52
        try clear c57
        try clear c57b0
        try clear c57b1
        try clear hx37_0
        try clear hx52_0
        try clear hx739_0
        try clear hx758_0
        try clear p2
        try clear p3
        try clear p37
        try clear p52
        try clear p6
        try clear p7
        try clear p739
        try clear p758
        try clear q3
        try clear q37
        try clear q52
        try clear q7
        try clear q739
        try clear q758
        obtain ⟨x3_2, x6_2, x7_2, x8_2, rfl, rfl, rfl, HA, HK2, HO_3, HI0, HK, HB⟩ := hrel
        cases gk with
        | zero => exact absurd HA.out (by simp [spec_l08DrawFreqs.l2])
        | succ k2 =>
         have H := HA.out
         clear HA
         simp only [spec_l08DrawFreqs.l2] at H
         by_cases c61 : x8_2 < 28
         ·rw [if_pos c61] at H
          have c61b0 : decide (x8_2 < 28) = true := decide_eq_true c61
          clear c61
          by_cases c62 : x3_2.length < 17592186044416
          ·rw [if_pos c62] at H
           have LMc62 := Aside0.mk c62
           clear c62
           obtain ⟨y764, hy764⟩ : ∃ y_ : List Int, y_ = (x3_2 ++ [x6_2]) := ⟨_, rfl⟩
           replace H : (spec_l08DrawFreqs.l2 k2 y764 x7_2 (wrap64 (x6_2 + x7_2)) (wrap64 (x8_2 + 1)) s0_0 t744 t745) = some (r1, r2, r3) := by first | (rw [hy764]; with_reducible exact H) | (have H2_ := (Option.bind_some _ _).symm.trans H; rw [hy764]; with_reducible exact H2_) | (have H2_ := (Option.bind_some _ _).symm.trans H; with_reducible exact H2_) | with_reducible exact H | (rw [hy764]; exact H) | exact H
           have Ny764 := Aside0.mk hy764
           clear hy764
           have H' := Aside0.mk H
           clear H
           go_wp2_with (first | ((with_reducible refine gate_builtin (b := .append) (xs := #[.tmp 68, .tmp 70]) rfl ?_); at_builtin; refine Kd.R_append (Kd.int .i64) w.heap.size rfl (.tmp 68) (.tmp 70) 22 3 (.int .i64 0) 8 rfl Try.underlying22 info3 rfl (by decide) (by omega) u3 x3_2 x6_2 [.int .i64 x6_2] (fun _ => True) (fun _ => False) rfl rfl ?aP (fun _ hk => hk.elim) ?aF ?aO (Below.refl _ _) ?aS ?aL ?_; (case aP => exact rfl); (case aF => exact (fun _ _ => trivial)); (case aO => exact (by (with_reducible repeat (first | apply Kd.R_alloc | apply Kd.R_drewN | apply Kd.R_drew)); exact HO_3.out)); (case aS => exact (keep_size (w := w) (g := g) (row := none) (by repeat (first | (with_reducible first | exact HK.out | apply KeepBut.set_ | apply keep_drewN | apply keep_drew | apply keep_alloc) | exact HK.out)))); (case aL => have := LMc62.out; omega); intro v765 w63 ho hb hg hat; rw [← Ny764.out] at ho; have n0_ := Aside0.mk (IsS150.grown (by repeat (first | (with_reducible first | exact HI0.out | apply IsS150.alloc | apply IsS150.drewN | apply IsS150.drew | apply IsS150.set_1 | apply IsS150.set_2) | exact HI0.out)) hg (IsS150.own_ne HI0.out HO_3.out (by decide))); have n1_ := Aside0.mk (below_weaken (by repeat (first | (with_reducible first | exact HB.out | apply below_alloc | apply pw_below_drewN | apply below_drew1 | refine below_set ?_ (IsS150.ge HI0.out)) | exact HB.out)) HL.out hb); have n2_ := Aside0.mk (KeepBut.trans (by repeat (first | (with_reducible first | exact HK.out | apply KeepBut.set_ | apply keep_drewN | apply keep_drew | apply keep_alloc) | exact HK.out)) (KeepBut.of_grown hg g) (Kd.R_base2 HO_3.out)); have n3_ := Aside0.mk (ho); clear HI0; clear HB; clear HK; clear HO_3; have HI0 := n0_; have HB := n1_; have HK := n2_; have HO766 := n3_; clear n0_ n1_ n2_ n3_; clear ho hb hg hat))
           go_roundg k2
           case measure => have := HK1.out; have := HK2.out; omega
           case rel => exact ⟨(y764), (x7_2), (wrap64 (x6_2 + x7_2)), (wrap64 (x8_2 + 1)), (by first | rfl | (simp; done) | (simp [*]; done)), (by first | rfl | (simp; done) | (simp [*]; done)), (by first | rfl | (simp; done) | (simp [*]; done)), H', ⟨by have := HK1.out; have := HK2.out; omega⟩, ⟨by (with_reducible repeat (first | apply Kd.R_alloc | apply Kd.R_drewN | apply Kd.R_drew)); exact HO766.out⟩, ⟨by repeat (first | (with_reducible first | exact HI0.out | apply IsS150.alloc | apply IsS150.drewN | apply IsS150.drew | apply IsS150.set_1 | apply IsS150.set_2) | exact HI0.out)⟩, ⟨by repeat (first | (with_reducible first | exact HK.out | apply KeepBut.set_ | apply keep_drewN | apply keep_drew | apply keep_alloc) | exact HK.out)⟩, ⟨by repeat (first | (with_reducible first | exact HB.out | apply below_alloc | apply pw_below_drewN | apply below_drew1 | refine below_set ?_ (IsS150.ge HI0.out)) | exact HB.out)⟩⟩
          ·rw [if_neg c62] at H
           exact absurd H (by simp)
         ·rw [if_neg c61] at H
          have c61b0 : decide (x8_2 < 28) = false := decide_eq_false c61
          clear c61
          simp only [Option.some.injEq, Prod.mk.injEq] at H
          obtain ⟨rfl, rfl, rfl⟩ := H
          go_wp2
          go_ret
          exact ⟨_, by first | rfl | (simp [errW_none, errW_some] <;> rfl) | (simp [*, errW_none, errW_some] <;> rfl), by (with_reducible repeat (first | apply Kd.R_alloc | apply Kd.R_drewN | apply Kd.R_drew)); exact HO_3.out, by repeat (first | (with_reducible first | exact HI0.out | apply IsS150.alloc | apply IsS150.drewN | apply IsS150.drew | apply IsS150.set_1 | apply IsS150.set_2) | exact HI0.out), by repeat (first | (with_reducible first | exact HB.out | apply below_alloc | apply pw_below_drewN | apply below_drew1 | refine below_set ?_ (IsS150.ge HI0.out)) | exact HB.out), by repeat (first | (with_reducible first | exact HK.out | apply KeepBut.set_ | apply keep_drewN | apply keep_drew | apply keep_alloc) | exact HK.out)⟩
      ·rw [if_neg c57] at H
       have c57b0 : (t743 == 2) = false := beq_eq_false_iff_ne.mpr c57
       have c57b1 : (t743 != 2) = true := bne_iff_ne.mpr c57
       by_cases c64 : t743 = 3
       ·rw [if_pos c64] at H
        have c64b0 : (t743 == 3) = true := beq_iff_eq.mpr c64
        have c64b1 : (t743 != 3) = false := bne_eq_false_iff_eq.mpr c64
        clear c64
        have H' := Aside0.mk H
        clear H
        go_wp2_with (first | ((with_reducible refine gate_callee (f := 85) rfl ?_); refine goesL_ (some 34) rfl rfl Try.func85 (by kernel_rfl) rfl #[.pointer (some ⟨g, 0, none⟩), .int .i64 14] rfl (by (try simp only [List.map_toArray, List.map_cons, List.map_nil]); first | done | rfl | (simp only [List.length_drop, List.length_take]; rfl)) ?_; (with_reducible refine (spec_l01Cur_pick.calls g s0_0 x1001_1 x1002_1 14 t743 t744 t745 w0 _ ?side1 ?side2 A28.out).mono ?_); (case side1 => repeat (first | (with_reducible first | exact HI0.out | apply IsS150.alloc | apply IsS150.drewN | apply IsS150.drew | apply IsS150.set_1 | apply IsS150.set_2) | exact HI0.out)); (case side2 => repeat (first | (with_reducible first | exact HB.out | apply below_alloc | apply pw_below_drewN | apply below_drew1 | refine below_set ?_ (IsS150.ge HI0.out)) | exact HB.out)); rintro e w65 ⟨rfl, hi, hb, hk⟩; refine ⟨_, rfl, ?_⟩; have n0_ := Aside0.mk (Kd.R_mono (Kd.R_keep (IsS150.apart (show IsS150 w0 _ g s0_0 x1001_1 x1002_1 from by repeat (first | (with_reducible first | exact HI0.out | apply IsS150.alloc | apply IsS150.drewN | apply IsS150.drew | apply IsS150.set_1 | apply IsS150.set_2) | exact HI0.out)) (by (with_reducible repeat (first | apply Kd.R_alloc | apply Kd.R_drewN | apply Kd.R_drew)); exact HO_3.out) (by decide)) hk (fun _ h => h.2)) (fun _ h => h.1)); have n1_ := Aside0.mk (KeepBut.trans (by repeat (first | (with_reducible first | exact HK.out | apply KeepBut.set_ | apply keep_drewN | apply keep_drew | apply keep_alloc) | exact HK.out)) hk (.inl rfl)); have n2_ := Aside0.mk (hb); have n3_ := Aside0.mk (hi); clear HO_3; clear HK; clear HB; clear HI0; have HO_3 := n0_; have HK := n1_; have HB := n2_; have HI0 := n3_; clear n0_ n1_ n2_ n3_; (try clear hb); (try clear hb2); (try clear hk); (try clear hi)))
        go_loopg [3] k1 (fun kq v3 w' => ∃ (x3_2 : List Int) (x1001_2 : Int) (x1002_2 : Int), Aside0 (spec_l08DrawFreqs.l3 kq x3_2 s0_0 x1001_2 x1002_2 = some (r1, r2, r3)) ∧ Aside0 (kq ≤ k1) ∧ Aside0 (Kd.R (Kd.int .i64) 3 w' w.heap.size (fun _ => True) v3 x3_2) ∧ Aside0 (IsS150 w0 w' g s0_0 x1001_2 x1002_2) ∧ Aside0 (KeepBut w w' g none) ∧ Aside0 (Below w0.heap.size w0 w'))
        case atStart => exact ⟨(x3_1), (t744), (t745), H', ⟨Nat.le_refl _⟩, ⟨by (with_reducible repeat (first | apply Kd.R_alloc | apply Kd.R_drewN | apply Kd.R_drew)); exact HO_3.out⟩, ⟨by repeat (first | (with_reducible first | exact HI0.out | apply IsS150.alloc | apply IsS150.drewN | apply IsS150.drew | apply IsS150.set_1 | apply IsS150.set_2) | exact HI0.out)⟩, ⟨by repeat (first | (with_reducible first | exact HK.out | apply KeepBut.set_ | apply keep_drewN | apply keep_drew | apply keep_alloc) | exact HK.out)⟩, ⟨by repeat (first | (with_reducible first | exact HB.out | apply below_alloc | apply pw_below_drewN | apply below_drew1 | refine below_set ?_ (IsS150.ge HI0.out)) | exact HB.out)⟩⟩
        case round =>
         clear H'
         try clear c1
         try clear c2
         try clear p2
         try clear c3
         try clear p3
         try clear q3
         try clear hx3
         try clear hf3
         try clear c4
         try clear c5
         try clear p5
         try clear q5
         try clear hx5
         try clear hf5
         try clear c6
         try clear c6b0
         try clear p6
         try clear p7
         try clear q7
         try clear hx7
         try clear qi7
         try clear c8
         try clear c10
         try clear c10b0
         try clear c10b1
         try clear c11
         try clear c13
         try clear c13b0
         try clear c14
         try clear c14b0
         try clear c15
         try clear c29
         try clear c29b0
         try clear c29b1
         try clear c33
         try clear c33b0
         try clear c34
         try clear c34b0
         try clear c35
         try clear c35b0
         try clear c36
         try clear c36b0
         try clear p37
         try clear q37
         try clear hx37
         try clear hf37
         try clear c48
         try clear c48b0
         try clear c48b1
         try clear c50
         try clear c50b0
         try clear c51
         try clear c51b0
         try clear p52
         try clear q52
         try clear hx52
         try clear hf52
         try clear c57
         try clear c57b0
         try clear c57b1
         try clear c61
         try clear c61b0
         try clear c62
         try clear c64
         try clear c64b0
         try clear c64b1
         try clear p64
         try clear hx37_0
         try clear hx52_0
         try clear hx739_0
         try clear hx758_0
         try clear p2
         try clear p3
         try clear p37
         try clear p5
         try clear p52
         try clear p6
         try clear p7
         try clear p739
         try clear p758
         try clear q3
         try clear q37
         try clear q5
         try clear q52
         try clear q7
         try clear q739
         try clear q758
         obtain ⟨x3_2, x1001_2, x1002_2, HA, HK2, HO_3, HI0, HK, HB⟩ := hrel
         cases gk with
         | zero => exact absurd HA.out (by simp [spec_l08DrawFreqs.l3])
         | succ k2 =>
          have H := HA.out
          clear HA
          simp only [spec_l08DrawFreqs.l3] at H
          replace H := Option.bind_eq_some_iff.mp H
          obtain ⟨⟨t767, t768, t769⟩, A660, H⟩ := H
          replace H : (if (x3_2.length : Int) < (wrap64 (256 + t767)) then ((spec_l01Cur_pick.f s0_0 t768 t769 3).bind fun bt770 => (if x3_2.length < 17592186044416 then (spec_l08DrawFreqs.l3 k2 (x3_2 ++ [bt770.1]) s0_0 bt770.2.1 bt770.2.2) else (none))) else (some (x3_2, t768, t769))) = some (r1, r2, r3) := H
          have A66 := Aside0.mk A660
          clear A660
          by_cases c67 : (x3_2.length : Int) < (wrap64 (256 + t767))
          ·rw [if_pos c67] at H
           have c67b0 : decide ((x3_2.length : Int) < (wrap64 (256 + t767))) = true := decide_eq_true c67
           clear c67
           replace H := Option.bind_eq_some_iff.mp H
           obtain ⟨⟨t770, t771, t772⟩, A680, H⟩ := H
           replace H : (if x3_2.length < 17592186044416 then (spec_l08DrawFreqs.l3 k2 (x3_2 ++ [t770]) s0_0 t771 t772) else (none)) = some (r1, r2, r3) := H
           have A68 := Aside0.mk A680
           clear A680
           by_cases c69 : x3_2.length < 17592186044416
           ·rw [if_pos c69] at H
            have LMc69 := Aside0.mk c69
            clear c69
            obtain ⟨y773, hy773⟩ : ∃ y_ : List Int, y_ = (x3_2 ++ [t770]) := ⟨_, rfl⟩
            replace H : (spec_l08DrawFreqs.l3 k2 y773 s0_0 t771 t772) = some (r1, r2, r3) := by first | (rw [hy773]; with_reducible exact H) | (have H2_ := (Option.bind_some _ _).symm.trans H; rw [hy773]; with_reducible exact H2_) | (have H2_ := (Option.bind_some _ _).symm.trans H; with_reducible exact H2_) | with_reducible exact H | (rw [hy773]; exact H) | exact H
            have Ny773 := Aside0.mk hy773
            clear hy773
            have H' := Aside0.mk H
            clear H
            obtain ⟨Ao70, co70, eo70⟩ := Kd.R_slice HO_3.out
            subst eo70
            go_wp2_with (first | ((with_reducible refine gate_callee (f := 85) rfl ?_); refine goesL_ (some 82) rfl rfl Try.func85 (by kernel_rfl) rfl #[.pointer (some ⟨g, 0, none⟩), .int .i64 2] rfl (by (try simp only [List.map_toArray, List.map_cons, List.map_nil]); first | done | rfl | (simp only [List.length_drop, List.length_take]; rfl)) ?_; (with_reducible refine (spec_l01Cur_pick.calls g s0_0 x1001_2 x1002_2 2 t767 t768 t769 w0 _ ?side1 ?side2 A66.out).mono ?_); (case side1 => repeat (first | (with_reducible first | exact HI0.out | apply IsS150.alloc | apply IsS150.drewN | apply IsS150.drew | apply IsS150.set_1 | apply IsS150.set_2) | exact HI0.out)); (case side2 => repeat (first | (with_reducible first | exact HB.out | apply below_alloc | apply pw_below_drewN | apply below_drew1 | refine below_set ?_ (IsS150.ge HI0.out)) | exact HB.out)); rintro e w71 ⟨rfl, hi, hb, hk⟩; refine ⟨_, rfl, ?_⟩; have n0_ := Aside0.mk (Kd.R_mono (Kd.R_keep (IsS150.apart (show IsS150 w0 _ g s0_0 x1001_2 x1002_2 from by repeat (first | (with_reducible first | exact HI0.out | apply IsS150.alloc | apply IsS150.drewN | apply IsS150.drew | apply IsS150.set_1 | apply IsS150.set_2) | exact HI0.out)) (by (with_reducible repeat (first | apply Kd.R_alloc | apply Kd.R_drewN | apply Kd.R_drew)); exact HO_3.out) (by decide)) hk (fun _ h => h.2)) (fun _ h => h.1)); have n1_ := Aside0.mk (KeepBut.trans (by repeat (first | (with_reducible first | exact HK.out | apply KeepBut.set_ | apply keep_drewN | apply keep_drew | apply keep_alloc) | exact HK.out)) hk (.inl rfl)); have n2_ := Aside0.mk (hb); have n3_ := Aside0.mk (hi); clear HO_3; clear HK; clear HB; clear HI0; have HO_3 := n0_; have HK := n1_; have HB := n2_; have HI0 := n3_; clear n0_ n1_ n2_ n3_; (try clear hb); (try clear hb2); (try clear hk); (try clear hi)) | ((with_reducible refine gate_callee (f := 85) rfl ?_); refine goesL_ (some 87) rfl rfl Try.func85 (by kernel_rfl) rfl #[.pointer (some ⟨g, 0, none⟩), .int .i64 3] rfl (by (try simp only [List.map_toArray, List.map_cons, List.map_nil]); first | done | rfl | (simp only [List.length_drop, List.length_take]; rfl)) ?_; (with_reducible refine (spec_l01Cur_pick.calls g s0_0 t768 t769 3 t770 t771 t772 w0 _ ?side1 ?side2 A68.out).mono ?_); (case side1 => repeat (first | (with_reducible first | exact HI0.out | apply IsS150.alloc | apply IsS150.drewN | apply IsS150.drew | apply IsS150.set_1 | apply IsS150.set_2) | exact HI0.out)); (case side2 => repeat (first | (with_reducible first | exact HB.out | apply below_alloc | apply pw_below_drewN | apply below_drew1 | refine below_set ?_ (IsS150.ge HI0.out)) | exact HB.out)); rintro e w72 ⟨rfl, hi, hb, hk⟩; refine ⟨_, rfl, ?_⟩; have n0_ := Aside0.mk (Kd.R_mono (Kd.R_keep (IsS150.apart (show IsS150 w0 _ g s0_0 t768 t769 from by repeat (first | (with_reducible first | exact HI0.out | apply IsS150.alloc | apply IsS150.drewN | apply IsS150.drew | apply IsS150.set_1 | apply IsS150.set_2) | exact HI0.out)) (by (with_reducible repeat (first | apply Kd.R_alloc | apply Kd.R_drewN | apply Kd.R_drew)); exact HO_3.out) (by decide)) hk (fun _ h => h.2)) (fun _ h => h.1)); have n1_ := Aside0.mk (KeepBut.trans (by repeat (first | (with_reducible first | exact HK.out | apply KeepBut.set_ | apply keep_drewN | apply keep_drew | apply keep_alloc) | exact HK.out)) hk (.inl rfl)); have n2_ := Aside0.mk (hb); have n3_ := Aside0.mk (hi); clear HO_3; clear HK; clear HB; clear HI0; have HO_3 := n0_; have HK := n1_; have HB := n2_; have HI0 := n3_; clear n0_ n1_ n2_ n3_; (try clear hb); (try clear hb2); (try clear hk); (try clear hi)) | ((with_reducible refine gate_builtin (b := .append) (xs := #[.tmp 85, .tmp 88]) rfl ?_); at_builtin; refine Kd.R_append (Kd.int .i64) w.heap.size rfl (.tmp 85) (.tmp 88) 22 3 (.int .i64 0) 8 rfl Try.underlying22 info3 rfl (by decide) (by omega) (.slice Ao70 x3_2.length co70) x3_2 t770 [.int .i64 t770] (fun _ => True) (fun _ => False) rfl rfl ?aP (fun _ hk => hk.elim) ?aF ?aO (Below.refl _ _) ?aS ?aL ?_; (case aP => exact rfl); (case aF => exact (fun _ _ => trivial)); (case aO => exact (by (with_reducible repeat (first | apply Kd.R_alloc | apply Kd.R_drewN | apply Kd.R_drew)); exact HO_3.out)); (case aS => exact (keep_size (w := w) (g := g) (row := none) (by repeat (first | (with_reducible first | exact HK.out | apply KeepBut.set_ | apply keep_drewN | apply keep_drew | apply keep_alloc) | exact HK.out)))); (case aL => have := LMc69.out; omega); intro v774 w73 ho hb hg hat; rw [← Ny773.out] at ho; have n0_ := Aside0.mk (IsS150.grown (by repeat (first | (with_reducible first | exact HI0.out | apply IsS150.alloc | apply IsS150.drewN | apply IsS150.drew | apply IsS150.set_1 | apply IsS150.set_2) | exact HI0.out)) hg (IsS150.own_ne HI0.out HO_3.out (by decide))); have n1_ := Aside0.mk (below_weaken (by repeat (first | (with_reducible first | exact HB.out | apply below_alloc | apply pw_below_drewN | apply below_drew1 | refine below_set ?_ (IsS150.ge HI0.out)) | exact HB.out)) HL.out hb); have n2_ := Aside0.mk (KeepBut.trans (by repeat (first | (with_reducible first | exact HK.out | apply KeepBut.set_ | apply keep_drewN | apply keep_drew | apply keep_alloc) | exact HK.out)) (KeepBut.of_grown hg g) (Kd.R_base2 HO_3.out)); have n3_ := Aside0.mk (ho); clear HI0; clear HB; clear HK; clear HO_3; have HI0 := n0_; have HB := n1_; have HK := n2_; have HO775 := n3_; clear n0_ n1_ n2_ n3_; clear ho hb hg hat))
            go_roundg k2
            case measure => have := HK1.out; have := HK2.out; omega
            case rel => exact ⟨(y773), (t771), (t772), H', ⟨by have := HK1.out; have := HK2.out; omega⟩, ⟨by (with_reducible repeat (first | apply Kd.R_alloc | apply Kd.R_drewN | apply Kd.R_drew)); exact HO775.out⟩, ⟨by repeat (first | (with_reducible first | exact HI0.out | apply IsS150.alloc | apply IsS150.drewN | apply IsS150.drew | apply IsS150.set_1 | apply IsS150.set_2) | exact HI0.out)⟩, ⟨by repeat (first | (with_reducible first | exact HK.out | apply KeepBut.set_ | apply keep_drewN | apply keep_drew | apply keep_alloc) | exact HK.out)⟩, ⟨by repeat (first | (with_reducible first | exact HB.out | apply below_alloc | apply pw_below_drewN | apply below_drew1 | refine below_set ?_ (IsS150.ge HI0.out)) | exact HB.out)⟩⟩
           ·rw [if_neg c69] at H
            exact absurd H (by simp)
          ·rw [if_neg c67] at H
           have c67b0 : decide ((x3_2.length : Int) < (wrap64 (256 + t767))) = false := decide_eq_false c67
           clear c67
           simp only [Option.some.injEq, Prod.mk.injEq] at H
           obtain ⟨rfl, rfl, rfl⟩ := H
           obtain ⟨Ao74, co74, eo74⟩ := Kd.R_slice HO_3.out
           subst eo74
           go_wp2_with (first | ((with_reducible refine gate_callee (f := 85) rfl ?_); refine goesL_ (some 82) rfl rfl Try.func85 (by kernel_rfl) rfl #[.pointer (some ⟨g, 0, none⟩), .int .i64 2] rfl (by (try simp only [List.map_toArray, List.map_cons, List.map_nil]); first | done | rfl | (simp only [List.length_drop, List.length_take]; rfl)) ?_; (with_reducible refine (spec_l01Cur_pick.calls g s0_0 x1001_2 x1002_2 2 t767 t768 t769 w0 _ ?side1 ?side2 A66.out).mono ?_); (case side1 => repeat (first | (with_reducible first | exact HI0.out | apply IsS150.alloc | apply IsS150.drewN | apply IsS150.drew | apply IsS150.set_1 | apply IsS150.set_2) | exact HI0.out)); (case side2 => repeat (first | (with_reducible first | exact HB.out | apply below_alloc | apply pw_below_drewN | apply below_drew1 | refine below_set ?_ (IsS150.ge HI0.out)) | exact HB.out)); rintro e w75 ⟨rfl, hi, hb, hk⟩; refine ⟨_, rfl, ?_⟩; have n0_ := Aside0.mk (Kd.R_mono (Kd.R_keep (IsS150.apart (show IsS150 w0 _ g s0_0 x1001_2 x1002_2 from by repeat (first | (with_reducible first | exact HI0.out | apply IsS150.alloc | apply IsS150.drewN | apply IsS150.drew | apply IsS150.set_1 | apply IsS150.set_2) | exact HI0.out)) (by (with_reducible repeat (first | apply Kd.R_alloc | apply Kd.R_drewN | apply Kd.R_drew)); exact HO_3.out) (by decide)) hk (fun _ h => h.2)) (fun _ h => h.1)); have n1_ := Aside0.mk (KeepBut.trans (by repeat (first | (with_reducible first | exact HK.out | apply KeepBut.set_ | apply keep_drewN | apply keep_drew | apply keep_alloc) | exact HK.out)) hk (.inl rfl)); have n2_ := Aside0.mk (hb); have n3_ := Aside0.mk (hi); clear HO_3; clear HK; clear HB; clear HI0; have HO_3 := n0_; have HK := n1_; have HB := n2_; have HI0 := n3_; clear n0_ n1_ n2_ n3_; (try clear hb); (try clear hb2); (try clear hk); (try clear hi)))
           go_ret
           exact ⟨_, by first | rfl | (simp [errW_none, errW_some] <;> rfl) | (simp [*, errW_none, errW_some] <;> rfl), by (with_reducible repeat (first | apply Kd.R_alloc | apply Kd.R_drewN | apply Kd.R_drew)); exact HO_3.out, by repeat (first | (with_reducible first | exact HI0.out | apply IsS150.alloc | apply IsS150.drewN | apply IsS150.drew | apply IsS150.set_1 | apply IsS150.set_2) | exact HI0.out), by repeat (first | (with_reducible first | exact HB.out | apply below_alloc | apply pw_below_drewN | apply below_drew1 | refine below_set ?_ (IsS150.ge HI0.out)) | exact HB.out), by repeat (first | (with_reducible first | exact HK.out | apply KeepBut.set_ | apply keep_drewN | apply keep_drew | apply keep_alloc) | exact HK.out)⟩
       ·rw [if_neg c64] at H
        have c64b0 : (t743 == 3) = false := beq_eq_false_iff_ne.mpr c64
        have c64b1 : (t743 != 3) = true := bne_iff_ne.mpr c64
        simp only [Option.some.injEq, Prod.mk.injEq] at H
        obtain ⟨rfl, rfl, rfl⟩ := H
        go_wp2_with (first | ((with_reducible refine gate_callee (f := 85) rfl ?_); refine goesL_ (some 34) rfl rfl Try.func85 (by kernel_rfl) rfl #[.pointer (some ⟨g, 0, none⟩), .int .i64 14] rfl (by (try simp only [List.map_toArray, List.map_cons, List.map_nil]); first | done | rfl | (simp only [List.length_drop, List.length_take]; rfl)) ?_; (with_reducible refine (spec_l01Cur_pick.calls g s0_0 x1001_1 x1002_1 14 t743 t744 t745 w0 _ ?side1 ?side2 A28.out).mono ?_); (case side1 => repeat (first | (with_reducible first | exact HI0.out | apply IsS150.alloc | apply IsS150.drewN | apply IsS150.drew | apply IsS150.set_1 | apply IsS150.set_2) | exact HI0.out)); (case side2 => repeat (first | (with_reducible first | exact HB.out | apply below_alloc | apply pw_below_drewN | apply below_drew1 | refine below_set ?_ (IsS150.ge HI0.out)) | exact HB.out)); rintro e w76 ⟨rfl, hi, hb, hk⟩; refine ⟨_, rfl, ?_⟩; have n0_ := Aside0.mk (Kd.R_mono (Kd.R_keep (IsS150.apart (show IsS150 w0 _ g s0_0 x1001_1 x1002_1 from by repeat (first | (with_reducible first | exact HI0.out | apply IsS150.alloc | apply IsS150.drewN | apply IsS150.drew | apply IsS150.set_1 | apply IsS150.set_2) | exact HI0.out)) (by (with_reducible repeat (first | apply Kd.R_alloc | apply Kd.R_drewN | apply Kd.R_drew)); exact HO_3.out) (by decide)) hk (fun _ h => h.2)) (fun _ h => h.1)); have n1_ := Aside0.mk (KeepBut.trans (by repeat (first | (with_reducible first | exact HK.out | apply KeepBut.set_ | apply keep_drewN | apply keep_drew | apply keep_alloc) | exact HK.out)) hk (.inl rfl)); have n2_ := Aside0.mk (hb); have n3_ := Aside0.mk (hi); clear HO_3; clear HK; clear HB; clear HI0; have HO_3 := n0_; have HK := n1_; have HB := n2_; have HI0 := n3_; clear n0_ n1_ n2_ n3_; (try clear hb); (try clear hb2); (try clear hk); (try clear hi)))
        go_ret
        exact ⟨_, by first | rfl | (simp [errW_none, errW_some] <;> rfl) | (simp [*, errW_none, errW_some] <;> rfl), by (with_reducible repeat (first | apply Kd.R_alloc | apply Kd.R_drewN | apply Kd.R_drew)); exact HO_3.out, by repeat (first | (with_reducible first | exact HI0.out | apply IsS150.alloc | apply IsS150.drewN | apply IsS150.drew | apply IsS150.set_1 | apply IsS150.set_2) | exact HI0.out), by repeat (first | (with_reducible first | exact HB.out | apply below_alloc | apply pw_below_drewN | apply below_drew1 | refine below_set ?_ (IsS150.ge HI0.out)) | exact HB.out), by repeat (first | (with_reducible first | exact HK.out | apply KeepBut.set_ | apply keep_drewN | apply keep_drew | apply keep_alloc) | exact HK.out)⟩
def fqP (c : List Int) (m : Nat) (r : List Int × Int × Int) : Prop := CurAt c m r.2.1 r.2.2 ∧ 1 ≤ r.1.length ∧ r.1.length ≤ 300
theorem spec_l08DrawFreqs.l1_ev (c : List Int) (m : Nat) (a s : Int) (hc : CurAt c m a s) : ∀ (d i : Nat) (x : List Int), i + d = x.length → 1 ≤ x.length → x.length ≤ 300 → EvP (fun k => spec_l08DrawFreqs.l1 k x (i : Int) c a s) (fqP c m) := by
 intro d
 induction d with
 | zero =>
  intro i x hi h1 h2
  exact EvP.step (fun _ => by rw [spec_l08DrawFreqs.l1]) (EvP.ng (by omega) (EvP.now ⟨hc, h1, h2⟩))
 | succ d ih =>
  intro i x hi h1 h2
  refine EvP.step (fun _ => by rw [spec_l08DrawFreqs.l1]) (EvP.ip (by omega) (EvP.ip (by omega) ?_))
  rw [wrap_succ i (by omega)]
  exact ih (i + 1) _ (by rw [List.length_set]; omega) (by rw [List.length_set]; exact h1) (by rw [List.length_set]; exact h2)
theorem spec_l08DrawFreqs.l2_ev (c : List Int) (m : Nat) (a s : Int) (hc : CurAt c m a s) : ∀ (d i : Nat) (x : List Int) (u v : Int), i + d = 28 → x.length = i → EvP (fun k => spec_l08DrawFreqs.l2 k x u v (i : Int) c a s) (fqP c m) := by
 intro d
 induction d with
 | zero =>
  intro i x u v hi hx
  exact EvP.step (fun _ => by rw [spec_l08DrawFreqs.l2]) (EvP.ng (by omega) (EvP.now ⟨hc, by simp only []; omega, by simp only []; omega⟩))
 | succ d ih =>
  intro i x u v hi hx
  refine EvP.step (fun _ => by rw [spec_l08DrawFreqs.l2]) (EvP.ip (by omega) (EvP.ip (by omega) ?_))
  rw [wrap_succ i (by omega)]
  exact ih (i + 1) _ _ _ (by omega) (by simp; omega)
theorem spec_l08DrawFreqs.l3_ev (c : List Int) : ∀ (d m : Nat) (a s : Int) (x : List Int), CurAt c m a s → m + 4 * d + 4 ≤ 1000000000 → 258 ≤ x.length + d → 1 ≤ x.length → x.length ≤ 300 → EvP (fun k => spec_l08DrawFreqs.l3 k x c a s) (fqP c (m + 4 * d + 4)) := by
 intro d
 induction d with
 | zero =>
  intro m a s x hc hm hx h1 h2
  refine EvP.step (fun _ => by rw [spec_l08DrawFreqs.l3]) (hc.pick (by omega) 2 (fun v a' s' v0 v1 hc' => ?_))
  refine EvP.ng ?_ (EvP.now ⟨hc'.up (by omega), h1, h2⟩)
  show ¬ ((x.length : Int) < wrap64 (256 + v))
  rw [wrap_in _ (by omega) (by omega)]
  omega
 | succ d ih =>
  intro m a s x hc hm hx h1 h2
  refine EvP.step (fun _ => by rw [spec_l08DrawFreqs.l3]) (hc.pick (by omega) 2 (fun v a' s' v0 v1 hc' => ?_))
  refine EvP.either (fun hlt => ?_) (fun _ => EvP.now ⟨hc'.up (by omega), h1, h2⟩)
  have hlt2 : (x.length : Int) < wrap64 (256 + v) := hlt
  rw [wrap_in _ (by omega) (by omega)] at hlt2
  refine hc'.pick (by omega) 3 (fun u a'' s'' _ _ hc'' => ?_)
  refine EvP.ip (by omega) ?_
  exact (ih (m + 2 + 2) a'' s'' _ hc'' (by omega) (by simp; omega) (by simp) (by simp; omega)).mono (fun r hr => ⟨hr.1.up (by omega), hr.2⟩)
theorem spec_l08DrawFreqs.l0_ev (c : List Int) : ∀ (n m : Nat) (a s : Int) (x : List Int), CurAt c m a s → m + 20 * n + 2000 ≤ 1000000000 → 1 ≤ x.length + n → x.length + n ≤ 30 → EvP (fun k => spec_l08DrawFreqs.l0 k x (n : Int) c a s) (fqP c (m + 20 * n + 2000)) := by
 intro n
 induction n with
 | zero =>
  intro m a s x hc hm h1 h2
  refine EvP.step (fun _ => by rw [spec_l08DrawFreqs.l0]) (EvP.ng (by omega) ?_)
  refine hc.pick (by omega) 14 (fun v a1 s1 _ _ hc1 => ?_)
  refine EvP.either (fun _ => ?_) (fun _ => ?_)
  ·refine hc1.pick (by omega) _ (fun p a2 s2 p0 p1 hc2 => ?_)
   refine hc2.odd (by omega) (fun o a3 s3 _ _ hc3 => ?_)
   refine EvP.some ?_
   refine hc3.pick (by omega) 4 (fun q a4 s4 q0 q1 hc4 => ?_)
   refine EvP.ip q0 (EvP.ip ?_ (EvP.ip p0 (EvP.ip ?_ (EvP.now ⟨hc4.up (by omega), by simp only [List.length_set]; omega, by simp only [List.length_set]; omega⟩))))
   ·show q < 4
    omega
   ·show p < x.length
    omega
  ·refine EvP.either (fun _ => ?_) (fun _ => ?_)
   ·exact (spec_l08DrawFreqs.l1_ev c (m + 2) a1 s1 hc1 x.length 0 x (by omega) (by omega) (by omega)).mono (fun r hr => ⟨hr.1.up (by omega), hr.2⟩)
   ·refine EvP.either (fun _ => ?_) (fun _ => ?_)
    ·exact (spec_l08DrawFreqs.l2_ev c (m + 2) a1 s1 hc1 28 0 [] 1 1 (by omega) rfl).mono (fun r hr => ⟨hr.1.up (by omega), hr.2⟩)
    ·refine EvP.either (fun _ => ?_) (fun _ => EvP.now ⟨hc1.up (by omega), by simp only []; omega, by simp only []; omega⟩)
     exact (spec_l08DrawFreqs.l3_ev c 300 (m + 2) a1 s1 x hc1 (by omega) (by omega) (by omega) (by omega)).mono (fun r hr => ⟨hr.1.up (by omega), hr.2⟩)
 | succ n ih =>
  intro m a s x hc hm h1 h2
  refine EvP.step (fun _ => by rw [spec_l08DrawFreqs.l0]) (EvP.ip (by omega) ?_)
  refine hc.pick (by omega) 9 (fun v1 a1 s1 _ _ hc1 => ?_)
  refine hc1.pick (by omega) 300 (fun v2 a2 s2 _ _ hc2 => ?_)
  refine hc2.pick (by omega) 19 (fun v3 a3 s3 v30 _ hc3 => ?_)
  refine EvP.ip v30 (EvP.some ?_)
  refine hc3.pick (by omega) 5 (fun q a4 s4 q0 q1 hc4 => ?_)
  refine EvP.ip q0 (EvP.ip ?_ (EvP.ip (by omega) ?_))
  ·show q < 5
   omega
  ·rw [show wrap64 (((n + 1 : Nat) : Int) - 1) = (n : Int) by rw [wrap_in _ (by omega) (by omega)]; omega]
   exact (ih (m + 2 + 2 + 2 + 2) a4 s4 _ hc4 (by omega) (by simp; omega) (by simp; omega)).mono (fun r hr => ⟨hr.1.up (by omega), hr.2⟩)
theorem spec_l08DrawFreqs.ev (c : List Int) (m : Nat) (a s : Int) (hc : CurAt c m a s) (hm : m ≤ 900000000) : EvP (fun k => spec_l08DrawFreqs.f k c a s) (fqP c (m + 3000)) := by
 unfold spec_l08DrawFreqs.f
 refine hc.size (by omega) 20 (by omega) (by omega) (fun x a' s' x0 x1 hc' => ?_)
 obtain ⟨n, rfl⟩ : ∃ n : Nat, x = n := ⟨x.toNat, by omega⟩
 show EvP (fun k => spec_l08DrawFreqs.l0 k [] (wrap64 (1 + (n : Int))) c a' s') _
 rw [show wrap64 (1 + (n : Int)) = ((n + 1 : Nat) : Int) by rw [wrap_in _ (by omega) (by omega)]; omega]
 exact (spec_l08DrawFreqs.l0_ev c (n + 1) (m + 2) a' s' [] hc' (by omega) (by simp) (by simp; omega)).mono (fun r hr => ⟨hr.1.up (by omega), hr.2⟩)
end Go.Proofs.Ytcjjmfpkhhdmlaa.G


namespace Go.Proofs.Ytcjjmfpkhhdmlaa.G
open Go.RowKit Go.Proofs.YtcjjmfpkhhdmlaaW.PrintWords Go.Proofs.YtcjjmfpkhhdmlaaW.PrintLast Go.Proofs.YtcjjmfpkhhdmlaaW.PrintMore
attribute [local go_sem] max2_int min2_int max_two min_two max_three min_three max_four min_four   -- for this text's walks alone
mutual
def spec_l08DrawLens.j0 : Nat → List Int → Bool → List Int → Int → Int → Option (List Int × Int × Int)
 | 0, _, _, _, _, _ => none
 | k + 1, x3, x14, x1000, x1001, x1002 => if x14 = true then ((spec_l01Cur_size.f x1000 x1001 x1002 12).bind fun bt790 => (spec_l08DrawLens.l0 k (([] : List Int)) (wrap64 (1 + bt790.1)) x1000 bt790.2.1 bt790.2.2)) else (spec_l08DrawLens.j2 k x3 x1000 x1001 x1002)
def spec_l08DrawLens.j2 : Nat → List Int → List Int → Int → Int → Option (List Int × Int × Int)
 | 0, _, _, _, _ => none
 | k + 1, x3, x1000, x1001, x1002 => (spec_l01Cur_once.f x1000 x1001 x1002 14).bind fun bt799 => (if bt799.1 = true then ((spec_l01Cur_pick.f x1000 bt799.2.1 bt799.2.2 (x3.length : Int)).bind fun bt802 => ((some (([16, 17, (-1), 0, 1] : List Int) : List Int)).bind fun y805 => ((spec_l01Cur_pick.f x1000 bt802.2.1 bt802.2.2 5).bind fun bt808 => (if 0 ≤ bt808.1 then (if bt808.1 < (y805.length : Int) then (if 0 ≤ bt802.1 then (if bt802.1 < (x3.length : Int) then (some ((x3.set (bt802.1 : Int).toNat (rd y805 bt808.1)), bt808.2.1, bt808.2.2)) else (none)) else (none)) else (none)) else (none))))) else (some (x3, bt799.2.1, bt799.2.2)))
def spec_l08DrawLens.l0 : Nat → List Int → Int → List Int → Int → Int → Option (List Int × Int × Int)
 | 0, _, _, _, _, _ => none
 | k + 1, x3, x4, x1000, x1001, x1002 => if x4 > 0 then ((spec_l01Cur_pick.f x1000 x1001 x1002 7).bind fun bt793 => (if x3.length < 17592186044416 then (spec_l08DrawLens.l0 k (x3 ++ [bt793.1]) (wrap64 (x4 - 1)) x1000 bt793.2.1 bt793.2.2) else (none))) else (spec_l08DrawLens.j2 k x3 x1000 x1001 x1002)
end
def spec_l08DrawLens.f (k : Nat) (s0_0 : List Int) (s0_1 : Int) (s0_2 : Int) : Option (List Int × Int × Int) := (spec_l08DrawFreqs.f k s0_0 s0_1 s0_2).bind fun bt776 => ((spec_BestLens.f k bt776.1).bind fun t781 => (if (t781.length : Int) = 0 then (spec_l08DrawLens.j0 k t781 true s0_0 bt776.2.1 bt776.2.2) else ((spec_l01Cur_once.f s0_0 bt776.2.1 bt776.2.2 4).bind fun bt784 => (spec_l08DrawLens.j0 k t781 bt784.1 s0_0 bt784.2.1 bt784.2.2))))
set_option maxHeartbeats 8000000 in
set_option maxRecDepth 100000 in
theorem spec_l08DrawLens.calls (k : Nat) (g : Nat) (s0_0 : List Int) (s0_1 : Int) (s0_2 : Int) (r1 : List Int) (r2 : Int) (r3 : Int) (w0 w : World) (hI : IsS150 w0 w g s0_0 s0_1 s0_2) (hB : Below w0.heap.size w0 w) (h : spec_l08DrawLens.f k s0_0 s0_1 s0_2 = some (r1, r2, r3)) :
  Calls Try.prog 118 #[.pointer (some ⟨g, 0, none⟩)] w fun e w' => ∃ v0_ : Value, e = .returned (v0_) ∧ Kd.R (Kd.int .i64) 3 w' w.heap.size (fun _ => True) v0_ r1 ∧ IsS150 w0 w' g s0_0 r2 r3 ∧ Below w0.heap.size w0 w' ∧ KeepBut w w' g none := by
 have HI0 := Aside0.mk hI
 have HK := Aside0.mk (KeepBut.refl w g none)
 have HL := Aside0.mk hB.size
 clear hI
 have HW0 := Aside0.mk hB.size
 have HB := Aside0.mk hB
 clear hB
 have H : ((spec_l08DrawFreqs.f k s0_0 s0_1 s0_2).bind fun bt776 => ((spec_BestLens.f k bt776.1).bind fun t781 => (if (t781.length : Int) = 0 then (spec_l08DrawLens.j0 k t781 true s0_0 bt776.2.1 bt776.2.2) else ((spec_l01Cur_once.f s0_0 bt776.2.1 bt776.2.2 4).bind fun bt784 => (spec_l08DrawLens.j0 k t781 bt784.1 s0_0 bt784.2.1 bt784.2.2))))) = some (r1, r2, r3) := h
 clear h
 replace H := Option.bind_eq_some_iff.mp H
 obtain ⟨⟨t776, t779, t780⟩, A20, H⟩ := H
 replace H : ((spec_BestLens.f k t776).bind fun t781 => (if (t781.length : Int) = 0 then (spec_l08DrawLens.j0 k t781 true s0_0 t779 t780) else ((spec_l01Cur_once.f s0_0 t779 t780 4).bind fun bt784 => (spec_l08DrawLens.j0 k t781 bt784.1 s0_0 bt784.2.1 bt784.2.2)))) = some (r1, r2, r3) := H
 have A2 := Aside0.mk A20
 clear A20
 replace H := Option.bind_eq_some_iff.mp H
 obtain ⟨t781, A30, H⟩ := H
 replace H : (if (t781.length : Int) = 0 then (spec_l08DrawLens.j0 k t781 true s0_0 t779 t780) else ((spec_l01Cur_once.f s0_0 t779 t780 4).bind fun bt784 => (spec_l08DrawLens.j0 k t781 bt784.1 s0_0 bt784.2.1 bt784.2.2))) = some (r1, r2, r3) := H
 have A3 := Aside0.mk A30
 clear A30
 have HC4 := Aside0.mk H
 clear H
 go_enter Try.func118, Try.ntmps118
 go_upto_region 2 with (first | ((with_reducible refine gate_callee (f := 155) rfl ?_); refine goesL_ (some 6) rfl rfl Try.func155 (by kernel_rfl) rfl #[.pointer (some ⟨g, 0, none⟩)] rfl (by (try simp only [List.map_toArray, List.map_cons, List.map_nil]); first | done | rfl | (simp only [List.length_drop, List.length_take]; rfl)) ?_; (with_reducible refine (spec_l08DrawFreqs.calls k g s0_0 s0_1 s0_2 t776 t779 t780 w0 _ ?side1 ?side2 A2.out).mono ?_); (case side1 => repeat (first | (with_reducible first | exact HI0.out | apply IsS150.alloc | apply IsS150.drewN | apply IsS150.drew | apply IsS150.set_1 | apply IsS150.set_2) | exact HI0.out)); (case side2 => repeat (first | (with_reducible first | exact HB.out | apply below_alloc | apply pw_below_drewN | apply below_drew1 | refine below_set ?_ (IsS150.ge HI0.out)) | exact HB.out)); rintro e w5 ⟨v777, rfl, ho0, hi, hb, hk⟩; refine ⟨_, rfl, ?_⟩; have n0_ := Aside0.mk (Kd.R_lower ho0 (keep_size (w := w) (g := g) (row := none) (by repeat (first | (with_reducible first | exact HK.out | apply KeepBut.set_ | apply keep_drewN | apply keep_drew | apply keep_alloc) | exact HK.out)))); have n1_ := Aside0.mk (KeepBut.trans (by repeat (first | (with_reducible first | exact HK.out | apply KeepBut.set_ | apply keep_drewN | apply keep_drew | apply keep_alloc) | exact HK.out)) hk (.inl rfl)); have n2_ := Aside0.mk (hb); have n3_ := Aside0.mk (hi); clear HK; clear HB; clear HI0; have HO778 := n0_; have HK := n1_; have HB := n2_; have HI0 := n3_; clear n0_ n1_ n2_ n3_; (try clear hb); (try clear hb2); (try clear hk); (try clear hi); (try clear ho0); obtain ⟨Ao6, co6, eo6⟩ := Kd.R_slice HO778.out; subst eo6) | ((with_reducible refine gate_callee (f := 154) rfl ?_); refine goesL_ (some 7) rfl rfl Try.func154 (by kernel_rfl) rfl #[.slice Ao6 t776.length co6] rfl (by (try simp only [List.map_toArray, List.map_cons, List.map_nil]); first | done | rfl | (simp only [List.length_drop, List.length_take]; rfl)) ?_; (with_reducible refine (spec_BestLens.calls k _ _ t776 t781 _ ?side1 ?side2 A3.out).mono ?_); (case side1 => repeat (first | exact (Kd.R_reads' HO778.out).2.2 | (with_reducible refine Kd.C_alloc ?_ _) | (with_reducible refine Kd.C_drewN ?_ _) | (with_reducible refine Kd.C_drew ?_))); (case side2 => exact (Kd.R_reads' HO778.out).2.1); rintro e w7 ⟨v782, rfl, ho0, hb⟩; refine ⟨_, rfl, ?_⟩; have n0_ := Aside0.mk (Kd.R_elder' (by (with_reducible repeat (first | apply Kd.R_alloc | apply Kd.R_drewN | apply Kd.R_drew)); exact HO778.out) (Kd.R_base ho0) hb); have n1_ := Aside0.mk (Kd.R_lower (Kd.R_new' ho0 (Kd.R_lt (by (with_reducible repeat (first | apply Kd.R_alloc | apply Kd.R_drewN | apply Kd.R_drew)); exact HO778.out))) (keep_size (w := w) (g := g) (row := none) (by repeat (first | (with_reducible first | exact HK.out | apply KeepBut.set_ | apply keep_drewN | apply keep_drew | apply keep_alloc) | exact HK.out)))); have n2_ := Aside0.mk (IsS150.below (by repeat (first | (with_reducible first | exact HI0.out | apply IsS150.alloc | apply IsS150.drewN | apply IsS150.drew | apply IsS150.set_1 | apply IsS150.set_2) | exact HI0.out)) hb); have n3_ := Aside0.mk (KeepBut.trans (by repeat (first | (with_reducible first | exact HK.out | apply KeepBut.set_ | apply keep_drewN | apply keep_drew | apply keep_alloc) | exact HK.out)) (KeepBut.of_below hb g none) (.inl rfl)); have n4_ := Aside0.mk (below_step (by repeat (first | (with_reducible first | exact HB.out | apply below_alloc | apply pw_below_drewN | apply below_drew1 | refine below_set ?_ (IsS150.ge HI0.out)) | exact HB.out)) hb); clear HO778; clear HI0; clear HK; clear HB; have HO778 := n0_; have HO783 := n1_; have HI0 := n2_; have HK := n3_; have HB := n4_; clear n0_ n1_ n2_ n3_ n4_; (try clear hb); (try clear hb2); (try clear hk); (try clear hi); (try clear ho0)))
 (try simp only [Act.put, List.setIfInBounds_toArray, List.set_cons_zero, List.set_cons_succ])
 go_cut [14] (fun v14 wc => ∃ (kq : Nat) (x14_3 : Bool) (x1001_3 : Int) (x1002_3 : Int), v14 = .bool x14_3 ∧ Aside0 (spec_l08DrawLens.j0 kq t781 x14_3 s0_0 x1001_3 x1002_3 = some (r1, r2, r3)) ∧ Aside0 (kq ≤ k) ∧ Aside0 (Kd.R (Kd.int .i64) 3 wc w.heap.size (fun _ => True) v782 t781) ∧ Aside0 (IsS150 w0 wc g s0_0 x1001_3 x1002_3) ∧ Aside0 (KeepBut w wc g none) ∧ Aside0 (Below w0.heap.size w0 wc))
 case first =>
  have H := HC4.out
  clear HC4
  by_cases c8 : (t781.length : Int) = 0
  ·rw [if_pos c8] at H
   have c8b0 : ((t781.length : Int) == 0) = true := beq_iff_eq.mpr c8
   have c8b1 : ((t781.length : Int) != 0) = false := bne_eq_false_iff_eq.mpr c8
   clear c8
   (first | rw [c8b0] | (simp only [i64_w, i32_w]; rw [c8b0]) | skip)
   have H' := Aside0.mk H
   clear H
   obtain ⟨Ao9, co9, eo9⟩ := Kd.R_slice HO783.out
   subst eo9
   go_wp2
   go_meet
   case rel => exact ⟨_, (true), (t779), (t780), (by first | rfl | (simp; done) | (simp [*]; done)), H', ⟨by first | omega | exact Nat.le_refl _⟩, ⟨by (with_reducible repeat (first | apply Kd.R_alloc | apply Kd.R_drewN | apply Kd.R_drew)); exact Kd.R_mono HO783.out (fun _ hk => trivial)⟩, ⟨by repeat (first | (with_reducible first | exact HI0.out | apply IsS150.alloc | apply IsS150.drewN | apply IsS150.drew | apply IsS150.set_1 | apply IsS150.set_2) | exact HI0.out)⟩, ⟨by repeat (first | (with_reducible first | exact HK.out | apply KeepBut.set_ | apply keep_drewN | apply keep_drew | apply keep_alloc) | exact HK.out)⟩, ⟨by repeat (first | (with_reducible first | exact HB.out | apply below_alloc | apply pw_below_drewN | apply below_drew1 | refine below_set ?_ (IsS150.ge HI0.out)) | exact HB.out)⟩⟩
  ·rw [if_neg c8] at H
   have c8b0 : ((t781.length : Int) == 0) = false := beq_eq_false_iff_ne.mpr c8
   have c8b1 : ((t781.length : Int) != 0) = true := bne_iff_ne.mpr c8
   have c8b2 : ¬ (t781 = []) := fun h_ => c8 (by rw [h_]; rfl)
   (first | rw [c8b0] | (simp only [i64_w, i32_w]; rw [c8b0]) | skip)
   replace H := Option.bind_eq_some_iff.mp H
   obtain ⟨⟨t784, t785, t786⟩, A100, H⟩ := H
   replace H : (spec_l08DrawLens.j0 k t781 t784 s0_0 t785 t786) = some (r1, r2, r3) := H
   have A10 := Aside0.mk A100
   clear A100
   have H' := Aside0.mk H
   clear H
   obtain ⟨Ao11, co11, eo11⟩ := Kd.R_slice HO783.out
   subst eo11
   go_wp2_with (first | (go_at_call 87; (with_reducible refine (spec_l01Cur_once.calls g s0_0 t779 t780 4 t784 t785 t786 w0 _ ?side1 ?side2 A10.out).mono ?_); (case side1 => repeat (first | (with_reducible first | exact HI0.out | apply IsS150.alloc | apply IsS150.drewN | apply IsS150.drew | apply IsS150.set_1 | apply IsS150.set_2) | exact HI0.out)); (case side2 => repeat (first | (with_reducible first | exact HB.out | apply below_alloc | apply pw_below_drewN | apply below_drew1 | refine below_set ?_ (IsS150.ge HI0.out)) | exact HB.out)); rintro e w12 ⟨rfl, hi, hb, hk⟩; have n0_ := Aside0.mk (Kd.R_mono (Kd.R_keep (IsS150.apart (show IsS150 w0 _ g s0_0 t779 t780 from by repeat (first | (with_reducible first | exact HI0.out | apply IsS150.alloc | apply IsS150.drewN | apply IsS150.drew | apply IsS150.set_1 | apply IsS150.set_2) | exact HI0.out)) (by (with_reducible repeat (first | apply Kd.R_alloc | apply Kd.R_drewN | apply Kd.R_drew)); exact HO778.out) (by decide)) hk (fun _ h => h.2)) (fun _ h => h.1)); have n1_ := Aside0.mk (Kd.R_mono (Kd.R_keep (IsS150.apart (show IsS150 w0 _ g s0_0 t779 t780 from by repeat (first | (with_reducible first | exact HI0.out | apply IsS150.alloc | apply IsS150.drewN | apply IsS150.drew | apply IsS150.set_1 | apply IsS150.set_2) | exact HI0.out)) (by (with_reducible repeat (first | apply Kd.R_alloc | apply Kd.R_drewN | apply Kd.R_drew)); exact HO783.out) (by decide)) hk (fun _ h => h.2)) (fun _ h => h.1)); have n2_ := Aside0.mk (KeepBut.trans (by repeat (first | (with_reducible first | exact HK.out | apply KeepBut.set_ | apply keep_drewN | apply keep_drew | apply keep_alloc) | exact HK.out)) hk (.inl rfl)); have n3_ := Aside0.mk (hb); have n4_ := Aside0.mk (hi); clear HO778; clear HO783; clear HK; clear HB; clear HI0; have HO778 := n0_; have HO783 := n1_; have HK := n2_; have HB := n3_; have HI0 := n4_; clear n0_ n1_ n2_ n3_ n4_; (try clear hb); (try clear hb2); (try clear hk); (try clear hi)))
   go_meet
   case rel => exact ⟨_, (t784), (t785), (t786), (by first | rfl | (simp; done) | (simp [*]; done)), H', ⟨by first | omega | exact Nat.le_refl _⟩, ⟨by (with_reducible repeat (first | apply Kd.R_alloc | apply Kd.R_drewN | apply Kd.R_drew)); exact Kd.R_mono HO783.out (fun _ hk => trivial)⟩, ⟨by repeat (first | (with_reducible first | exact HI0.out | apply IsS150.alloc | apply IsS150.drewN | apply IsS150.drew | apply IsS150.set_1 | apply IsS150.set_2) | exact HI0.out)⟩, ⟨by repeat (first | (with_reducible first | exact HK.out | apply KeepBut.set_ | apply keep_drewN | apply keep_drew | apply keep_alloc) | exact HK.out)⟩, ⟨by repeat (first | (with_reducible first | exact HB.out | apply below_alloc | apply pw_below_drewN | apply below_drew1 | refine below_set ?_ (IsS150.ge HI0.out)) | exact HB.out)⟩⟩
 case rest =>
  clear HC4
  try clear c1
  try clear p2
  try clear c8
  try clear c8b0
  try clear c8b1
  try clear c8b2
  try clear c11
  obtain ⟨kq, x14_3, x1001_3, x1002_3, rfl, HA, HJ3, HO_3, HI0, HK, HB⟩ := hcut
  cases kq with
  | zero => exact absurd HA.out (by simp [spec_l08DrawLens.j0])
  | succ kj3 =>
   have H := HA.out
   clear HA
   simp only [spec_l08DrawLens.j0] at H
   have HC13 := Aside0.mk H
   clear H
   go_upto_if 14 with (fail)
   go_cut [3] (fun v3 wc => ∃ (kq : Nat) (x3_12 : List Int) (x1001_12 : Int) (x1002_12 : Int), Aside0 (spec_l08DrawLens.j2 kq x3_12 s0_0 x1001_12 x1002_12 = some (r1, r2, r3)) ∧ Aside0 (kq ≤ kj3) ∧ Aside0 (Kd.R (Kd.int .i64) 3 wc w.heap.size (fun _ => True) v3 x3_12) ∧ Aside0 (IsS150 w0 wc g s0_0 x1001_12 x1002_12) ∧ Aside0 (KeepBut w wc g none) ∧ Aside0 (Below w0.heap.size w0 wc))
   case first =>
    have H := HC13.out
    clear HC13
    by_cases c14 : x14_3 = true
    ·subst c14
     have H1 : ((spec_l01Cur_size.f s0_0 x1001_3 x1002_3 12).bind fun bt790 => (spec_l08DrawLens.l0 kj3 (([] : List Int)) (wrap64 (1 + bt790.1)) s0_0 bt790.2.1 bt790.2.2)) = some (r1, r2, r3) := by rw [if_pos rfl] at H; exact H
     clear H
     have H := H1
     clear H1
     obtain ⟨y787, hy787⟩ : ∃ y_ : List Int, y_ = (([] : List Int)) := ⟨_, rfl⟩
     replace H : ((spec_l01Cur_size.f s0_0 x1001_3 x1002_3 12).bind fun bt790 => (spec_l08DrawLens.l0 kj3 y787 (wrap64 (1 + bt790.1)) s0_0 bt790.2.1 bt790.2.2)) = some (r1, r2, r3) := by first | (rw [hy787]; with_reducible exact H) | (have H2_ := (Option.bind_some _ _).symm.trans H; rw [hy787]; with_reducible exact H2_) | (have H2_ := (Option.bind_some _ _).symm.trans H; with_reducible exact H2_) | with_reducible exact H | (rw [hy787]; exact H) | exact H
     have Ny787 := Aside0.mk hy787
     clear hy787
     replace H := Option.bind_eq_some_iff.mp H
     obtain ⟨⟨t790, t791, t792⟩, A150, H⟩ := H
     replace H : (spec_l08DrawLens.l0 kj3 y787 (wrap64 (1 + t790)) s0_0 t791 t792) = some (r1, r2, r3) := H
     have A15 := Aside0.mk A150
     clear A150
     have H' := Aside0.mk H
     clear H
     go_wp2_with (first | ((with_reducible refine gate_dst (N := 15) rfl ?_); refine Kd.R_lit (Kd.int .i64) _ 3 ?hg (N := 15) ?hd (xs := ([] : List Int)) (inner := []) (ok := fun _ => True) (okp := fun _ => True) ?hr ?hp (fun _ hk => hk) trivial (Below.refl _ _) (Nat.le_refl _) (by simp) ?_; (case hd => rfl); (case hg => rfl); (case hr => first | (go_simp; done) | (go_simp; rfl)); (case hp => exact (Reps.none _ _)); intro v788 w16 ho17 hb hg_ hnew_; clear hg_ hnew_; (first | rw [← Ny787.out] at ho17 | (simp only [Int.reduceToNat] at ho17; rw [← Ny787.out] at ho17)); have n0_ := Aside0.mk (Kd.R_elder' (by (with_reducible repeat (first | apply Kd.R_alloc | apply Kd.R_drewN | apply Kd.R_drew)); exact HO_3.out) (Kd.R_base ho17) hb); have n1_ := Aside0.mk (Kd.R_lower (Kd.R_new' ho17 (Kd.R_lt (by (with_reducible repeat (first | apply Kd.R_alloc | apply Kd.R_drewN | apply Kd.R_drew)); exact HO_3.out))) (keep_size (w := w) (g := g) (row := none) (by repeat (first | (with_reducible first | exact HK.out | apply KeepBut.set_ | apply keep_drewN | apply keep_drew | apply keep_alloc) | exact HK.out)))); have n2_ := Aside0.mk (IsS150.below (by repeat (first | (with_reducible first | exact HI0.out | apply IsS150.alloc | apply IsS150.drewN | apply IsS150.drew | apply IsS150.set_1 | apply IsS150.set_2) | exact HI0.out)) hb); have n3_ := Aside0.mk (KeepBut.trans (by repeat (first | (with_reducible first | exact HK.out | apply KeepBut.set_ | apply keep_drewN | apply keep_drew | apply keep_alloc) | exact HK.out)) (KeepBut.of_below hb g none) (.inl rfl)); have n4_ := Aside0.mk (below_step (by repeat (first | (with_reducible first | exact HB.out | apply below_alloc | apply pw_below_drewN | apply below_drew1 | refine below_set ?_ (IsS150.ge HI0.out)) | exact HB.out)) hb); clear HO_3; clear HI0; clear HK; clear HB; have HO_3 := n0_; have HO789 := n1_; have HI0 := n2_; have HK := n3_; have HB := n4_; clear n0_ n1_ n2_ n3_ n4_; clear hb ho17) | ((with_reducible refine gate_callee (f := 153) rfl ?_); refine goesL_ (some 17) rfl rfl Try.func153 (by kernel_rfl) rfl #[.pointer (some ⟨g, 0, none⟩), .int .i64 12] rfl (by (try simp only [List.map_toArray, List.map_cons, List.map_nil]); first | done | rfl | (simp only [List.length_drop, List.length_take]; rfl)) ?_; (with_reducible refine (spec_l01Cur_size.calls g s0_0 x1001_3 x1002_3 12 t790 t791 t792 w0 _ ?side1 ?side2 A15.out).mono ?_); (case side1 => repeat (first | (with_reducible first | exact HI0.out | apply IsS150.alloc | apply IsS150.drewN | apply IsS150.drew | apply IsS150.set_1 | apply IsS150.set_2) | exact HI0.out)); (case side2 => repeat (first | (with_reducible first | exact HB.out | apply below_alloc | apply pw_below_drewN | apply below_drew1 | refine below_set ?_ (IsS150.ge HI0.out)) | exact HB.out)); rintro e w18 ⟨rfl, hi, hb, hk⟩; refine ⟨_, rfl, ?_⟩; have n0_ := Aside0.mk (Kd.R_mono (Kd.R_keep (IsS150.apart (show IsS150 w0 _ g s0_0 x1001_3 x1002_3 from by repeat (first | (with_reducible first | exact HI0.out | apply IsS150.alloc | apply IsS150.drewN | apply IsS150.drew | apply IsS150.set_1 | apply IsS150.set_2) | exact HI0.out)) (by (with_reducible repeat (first | apply Kd.R_alloc | apply Kd.R_drewN | apply Kd.R_drew)); exact HO_3.out) (by decide)) hk (fun _ h => h.2)) (fun _ h => h.1)); have n1_ := Aside0.mk (Kd.R_mono (Kd.R_keep (IsS150.apart (show IsS150 w0 _ g s0_0 x1001_3 x1002_3 from by repeat (first | (with_reducible first | exact HI0.out | apply IsS150.alloc | apply IsS150.drewN | apply IsS150.drew | apply IsS150.set_1 | apply IsS150.set_2) | exact HI0.out)) (by (with_reducible repeat (first | apply Kd.R_alloc | apply Kd.R_drewN | apply Kd.R_drew)); exact HO789.out) (by decide)) hk (fun _ h => h.2)) (fun _ h => h.1)); have n2_ := Aside0.mk (KeepBut.trans (by repeat (first | (with_reducible first | exact HK.out | apply KeepBut.set_ | apply keep_drewN | apply keep_drew | apply keep_alloc) | exact HK.out)) hk (.inl rfl)); have n3_ := Aside0.mk (hb); have n4_ := Aside0.mk (hi); clear HO_3; clear HO789; clear HK; clear HB; clear HI0; have HO_3 := n0_; have HO789 := n1_; have HK := n2_; have HB := n3_; have HI0 := n4_; clear n0_ n1_ n2_ n3_ n4_; (try clear hb); (try clear hb2); (try clear hk); (try clear hi)))
     go_loopg [3, 4] kj3 (fun kq v3 v4 w' => ∃ (x3_2 : List Int) (x4_2 : Int) (x1001_2 : Int) (x1002_2 : Int), v4 = .int .i64 x4_2 ∧ Aside0 (spec_l08DrawLens.l0 kq x3_2 x4_2 s0_0 x1001_2 x1002_2 = some (r1, r2, r3)) ∧ Aside0 (kq ≤ kj3) ∧ Aside0 (Kd.R (Kd.int .i64) 3 w' w.heap.size (fun _ => True) v3 x3_2) ∧ Aside0 (IsS150 w0 w' g s0_0 x1001_2 x1002_2) ∧ Aside0 (KeepBut w w' g none) ∧ Aside0 (Below w0.heap.size w0 w'))
     case atStart => exact ⟨(y787), (wrap64 (1 + t790)), (t791), (t792), (by first | rfl | (simp; done) | (simp [*]; done)), H', ⟨Nat.le_refl _⟩, ⟨by (with_reducible repeat (first | apply Kd.R_alloc | apply Kd.R_drewN | apply Kd.R_drew)); exact Kd.R_mono HO789.out (fun _ hk => trivial)⟩, ⟨by repeat (first | (with_reducible first | exact HI0.out | apply IsS150.alloc | apply IsS150.drewN | apply IsS150.drew | apply IsS150.set_1 | apply IsS150.set_2) | exact HI0.out)⟩, ⟨by repeat (first | (with_reducible first | exact HK.out | apply KeepBut.set_ | apply keep_drewN | apply keep_drew | apply keep_alloc) | exact HK.out)⟩, ⟨by repeat (first | (with_reducible first | exact HB.out | apply below_alloc | apply pw_below_drewN | apply below_drew1 | refine below_set ?_ (IsS150.ge HI0.out)) | exact HB.out)⟩⟩
     case round =>
      clear H'
      try clear c1
      try clear p2
      try clear p6
      try clear c8
      try clear c8b0
      try clear c8b1
      try clear c8b2
      try clear c11
      try clear c14
      try clear c15
      try clear p2
      obtain ⟨x3_2, x4_2, x1001_2, x1002_2, rfl, HA, HK2, HO_3, HI0, HK, HB⟩ := hrel
      cases gk with
      | zero => exact absurd HA.out (by simp [spec_l08DrawLens.l0])
      | succ k2 =>
       have H := HA.out
       clear HA
       simp only [spec_l08DrawLens.l0] at H
       by_cases c19 : x4_2 > 0
       ·rw [if_pos c19] at H
        have c19b0 : decide (0 < x4_2) = true := decide_eq_true c19
        clear c19
        (first | rw [c19b0] | (simp only [i64_w, i32_w]; rw [c19b0]) | skip)
        replace H := Option.bind_eq_some_iff.mp H
        obtain ⟨⟨t793, t794, t795⟩, A200, H⟩ := H
        replace H : (if x3_2.length < 17592186044416 then (spec_l08DrawLens.l0 k2 (x3_2 ++ [t793]) (wrap64 (x4_2 - 1)) s0_0 t794 t795) else (none)) = some (r1, r2, r3) := H
        have A20 := Aside0.mk A200
        clear A200
        by_cases c21 : x3_2.length < 17592186044416
        ·rw [if_pos c21] at H
         have LMc21 := Aside0.mk c21
         clear c21
         obtain ⟨y796, hy796⟩ : ∃ y_ : List Int, y_ = (x3_2 ++ [t793]) := ⟨_, rfl⟩
         replace H : (spec_l08DrawLens.l0 k2 y796 (wrap64 (x4_2 - 1)) s0_0 t794 t795) = some (r1, r2, r3) := by first | (rw [hy796]; with_reducible exact H) | (have H2_ := (Option.bind_some _ _).symm.trans H; rw [hy796]; with_reducible exact H2_) | (have H2_ := (Option.bind_some _ _).symm.trans H; with_reducible exact H2_) | with_reducible exact H | (rw [hy796]; exact H) | exact H
         have Ny796 := Aside0.mk hy796
         clear hy796
         have H' := Aside0.mk H
         clear H
         go_wp2_with (first | ((with_reducible refine gate_callee (f := 85) rfl ?_); refine goesL_ (some 25) rfl rfl Try.func85 (by kernel_rfl) rfl #[.pointer (some ⟨g, 0, none⟩), .int .i64 7] rfl (by (try simp only [List.map_toArray, List.map_cons, List.map_nil]); first | done | rfl | (simp only [List.length_drop, List.length_take]; rfl)) ?_; (with_reducible refine (spec_l01Cur_pick.calls g s0_0 x1001_2 x1002_2 7 t793 t794 t795 w0 _ ?side1 ?side2 A20.out).mono ?_); (case side1 => repeat (first | (with_reducible first | exact HI0.out | apply IsS150.alloc | apply IsS150.drewN | apply IsS150.drew | apply IsS150.set_1 | apply IsS150.set_2) | exact HI0.out)); (case side2 => repeat (first | (with_reducible first | exact HB.out | apply below_alloc | apply pw_below_drewN | apply below_drew1 | refine below_set ?_ (IsS150.ge HI0.out)) | exact HB.out)); rintro e w22 ⟨rfl, hi, hb, hk⟩; refine ⟨_, rfl, ?_⟩; have n0_ := Aside0.mk (Kd.R_mono (Kd.R_keep (IsS150.apart (show IsS150 w0 _ g s0_0 x1001_2 x1002_2 from by repeat (first | (with_reducible first | exact HI0.out | apply IsS150.alloc | apply IsS150.drewN | apply IsS150.drew | apply IsS150.set_1 | apply IsS150.set_2) | exact HI0.out)) (by (with_reducible repeat (first | apply Kd.R_alloc | apply Kd.R_drewN | apply Kd.R_drew)); exact HO_3.out) (by decide)) hk (fun _ h => h.2)) (fun _ h => h.1)); have n1_ := Aside0.mk (KeepBut.trans (by repeat (first | (with_reducible first | exact HK.out | apply KeepBut.set_ | apply keep_drewN | apply keep_drew | apply keep_alloc) | exact HK.out)) hk (.inl rfl)); have n2_ := Aside0.mk (hb); have n3_ := Aside0.mk (hi); clear HO_3; clear HK; clear HB; clear HI0; have HO_3 := n0_; have HK := n1_; have HB := n2_; have HI0 := n3_; clear n0_ n1_ n2_ n3_; (try clear hb); (try clear hb2); (try clear hk); (try clear hi)) | ((with_reducible refine gate_builtin (b := .append) (xs := #[.tmp 23, .tmp 26]) rfl ?_); at_builtin; refine Kd.R_append (Kd.int .i64) w.heap.size rfl (.tmp 23) (.tmp 26) 22 3 (.int .i64 0) 8 rfl Try.underlying22 info3 rfl (by decide) (by omega) u3 x3_2 t793 [.int .i64 t793] (fun _ => True) (fun _ => False) rfl rfl ?aP (fun _ hk => hk.elim) ?aF ?aO (Below.refl _ _) ?aS ?aL ?_; (case aP => exact rfl); (case aF => exact (fun _ _ => trivial)); (case aO => exact (by (with_reducible repeat (first | apply Kd.R_alloc | apply Kd.R_drewN | apply Kd.R_drew)); exact HO_3.out)); (case aS => exact (keep_size (w := w) (g := g) (row := none) (by repeat (first | (with_reducible first | exact HK.out | apply KeepBut.set_ | apply keep_drewN | apply keep_drew | apply keep_alloc) | exact HK.out)))); (case aL => have := LMc21.out; omega); intro v797 w23 ho hb hg hat; rw [← Ny796.out] at ho; have n0_ := Aside0.mk (IsS150.grown (by repeat (first | (with_reducible first | exact HI0.out | apply IsS150.alloc | apply IsS150.drewN | apply IsS150.drew | apply IsS150.set_1 | apply IsS150.set_2) | exact HI0.out)) hg (IsS150.own_ne HI0.out HO_3.out (by decide))); have n1_ := Aside0.mk (below_weaken (by repeat (first | (with_reducible first | exact HB.out | apply below_alloc | apply pw_below_drewN | apply below_drew1 | refine below_set ?_ (IsS150.ge HI0.out)) | exact HB.out)) HL.out hb); have n2_ := Aside0.mk (KeepBut.trans (by repeat (first | (with_reducible first | exact HK.out | apply KeepBut.set_ | apply keep_drewN | apply keep_drew | apply keep_alloc) | exact HK.out)) (KeepBut.of_grown hg g) (Kd.R_base2 HO_3.out)); have n3_ := Aside0.mk (ho); clear HI0; clear HB; clear HK; clear HO_3; have HI0 := n0_; have HB := n1_; have HK := n2_; have HO798 := n3_; clear n0_ n1_ n2_ n3_; clear ho hb hg hat))
         go_roundg k2
         case measure => have := HJ3.out; have := HK2.out; omega
         case rel => exact ⟨(y796), (wrap64 (x4_2 - 1)), (t794), (t795), (by first | rfl | (simp; done) | (simp [*]; done)), H', ⟨by have := HJ3.out; have := HK2.out; omega⟩, ⟨by (with_reducible repeat (first | apply Kd.R_alloc | apply Kd.R_drewN | apply Kd.R_drew)); exact HO798.out⟩, ⟨by repeat (first | (with_reducible first | exact HI0.out | apply IsS150.alloc | apply IsS150.drewN | apply IsS150.drew | apply IsS150.set_1 | apply IsS150.set_2) | exact HI0.out)⟩, ⟨by repeat (first | (with_reducible first | exact HK.out | apply KeepBut.set_ | apply keep_drewN | apply keep_drew | apply keep_alloc) | exact HK.out)⟩, ⟨by repeat (first | (with_reducible first | exact HB.out | apply below_alloc | apply pw_below_drewN | apply below_drew1 | refine below_set ?_ (IsS150.ge HI0.out)) | exact HB.out)⟩⟩
        ·rw [if_neg c21] at H
         exact absurd H (by simp)
       ·rw [if_neg c19] at H
        have c19b0 : decide (0 < x4_2) = false := decide_eq_false c19
        clear c19
        (first | rw [c19b0] | (simp only [i64_w, i32_w]; rw [c19b0]) | skip)
        have H' := Aside0.mk H
        clear H
        go_wp2
        go_meet
        case rel => exact ⟨_, (x3_2), (x1001_2), (x1002_2), H', ⟨by have := HJ3.out; have := HK2.out; first | omega | exact Nat.le_refl _⟩, ⟨by (with_reducible repeat (first | apply Kd.R_alloc | apply Kd.R_drewN | apply Kd.R_drew)); exact HO_3.out⟩, ⟨by repeat (first | (with_reducible first | exact HI0.out | apply IsS150.alloc | apply IsS150.drewN | apply IsS150.drew | apply IsS150.set_1 | apply IsS150.set_2) | exact HI0.out)⟩, ⟨by repeat (first | (with_reducible first | exact HK.out | apply KeepBut.set_ | apply keep_drewN | apply keep_drew | apply keep_alloc) | exact HK.out)⟩, ⟨by repeat (first | (with_reducible first | exact HB.out | apply below_alloc | apply pw_below_drewN | apply below_drew1 | refine below_set ?_ (IsS150.ge HI0.out)) | exact HB.out)⟩⟩
    ·replace c14 := Bool.eq_false_iff.mpr c14
     subst c14
     have H1 : (spec_l08DrawLens.j2 kj3 t781 s0_0 x1001_3 x1002_3) = some (r1, r2, r3) := by rw [if_neg (show ¬ (false = true) by decide)] at H; exact H
     clear H
     have H := H1
     clear H1
     have H' := Aside0.mk H
     clear H
     go_wp2
     go_meet
     case rel => exact ⟨_, (t781), (x1001_3), (x1002_3), H', ⟨by have := HJ3.out; first | omega | exact Nat.le_refl _⟩, ⟨by (with_reducible repeat (first | apply Kd.R_alloc | apply Kd.R_drewN | apply Kd.R_drew)); exact HO_3.out⟩, ⟨by repeat (first | (with_reducible first | exact HI0.out | apply IsS150.alloc | apply IsS150.drewN | apply IsS150.drew | apply IsS150.set_1 | apply IsS150.set_2) | exact HI0.out)⟩, ⟨by repeat (first | (with_reducible first | exact HK.out | apply KeepBut.set_ | apply keep_drewN | apply keep_drew | apply keep_alloc) | exact HK.out)⟩, ⟨by repeat (first | (with_reducible first | exact HB.out | apply below_alloc | apply pw_below_drewN | apply below_drew1 | refine below_set ?_ (IsS150.ge HI0.out)) | exact HB.out)⟩⟩
   case rest =>
    clear HC13
    try clear c1
    try clear c2
    try clear p2
    try clear p6
    try clear c8
    try clear c8b0
    try clear c8b1
    try clear c8b2
    try clear c11
    try clear c14
    try clear c15
    try clear c19
    try clear c19b0
    try clear c21
    try clear p2
    try clear p6
    obtain ⟨kq, x3_12, x1001_12, x1002_12, HA, HJ12, HO_3, HI0, HK, HB⟩ := hcut
    cases kq with
    | zero => exact absurd HA.out (by simp [spec_l08DrawLens.j2])
    | succ kj12 =>
     have H := HA.out
     clear HA
     simp only [spec_l08DrawLens.j2] at H
     replace H := Option.bind_eq_some_iff.mp H
     obtain ⟨⟨t799, t800, t801⟩, A240, H⟩ := H
     replace H : (if t799 = true then ((spec_l01Cur_pick.f s0_0 t800 t801 (x3_12.length : Int)).bind fun bt802 => ((some (([16, 17, (-1), 0, 1] : List Int) : List Int)).bind fun y805 => ((spec_l01Cur_pick.f s0_0 bt802.2.1 bt802.2.2 5).bind fun bt808 => (if 0 ≤ bt808.1 then (if bt808.1 < (y805.length : Int) then (if 0 ≤ bt802.1 then (if bt802.1 < (x3_12.length : Int) then (some ((x3_12.set (bt802.1 : Int).toNat (rd y805 bt808.1)), bt808.2.1, bt808.2.2)) else (none)) else (none)) else (none)) else (none))))) else (some (x3_12, t800, t801))) = some (r1, r2, r3) := H
     have A24 := Aside0.mk A240
     clear A240
     by_cases c25 : t799 = true
     ·subst c25
      have H1 : ((spec_l01Cur_pick.f s0_0 t800 t801 (x3_12.length : Int)).bind fun bt802 => ((some (([16, 17, (-1), 0, 1] : List Int) : List Int)).bind fun y805 => ((spec_l01Cur_pick.f s0_0 bt802.2.1 bt802.2.2 5).bind fun bt808 => (if 0 ≤ bt808.1 then (if bt808.1 < (y805.length : Int) then (if 0 ≤ bt802.1 then (if bt802.1 < (x3_12.length : Int) then (some ((x3_12.set (bt802.1 : Int).toNat (rd y805 bt808.1)), bt808.2.1, bt808.2.2)) else (none)) else (none)) else (none)) else (none))))) = some (r1, r2, r3) := by rw [if_pos rfl] at H; exact H
      clear H
      have H := H1
      clear H1
      replace H := Option.bind_eq_some_iff.mp H
      obtain ⟨⟨t802, t803, t804⟩, A260, H⟩ := H
      replace H : ((some (([16, 17, (-1), 0, 1] : List Int) : List Int)).bind fun y805 => ((spec_l01Cur_pick.f s0_0 t803 t804 5).bind fun bt808 => (if 0 ≤ bt808.1 then (if bt808.1 < (y805.length : Int) then (if 0 ≤ t802 then (if t802 < (x3_12.length : Int) then (some ((x3_12.set (t802 : Int).toNat (rd y805 bt808.1)), bt808.2.1, bt808.2.2)) else (none)) else (none)) else (none)) else (none)))) = some (r1, r2, r3) := H
      have A26 := Aside0.mk A260
      clear A260
      obtain ⟨y805, hy805⟩ : ∃ y_ : List Int, y_ = (([16, 17, (-1), 0, 1] : List Int)) := ⟨_, rfl⟩
      replace H : ((spec_l01Cur_pick.f s0_0 t803 t804 5).bind fun bt808 => (if 0 ≤ bt808.1 then (if bt808.1 < (y805.length : Int) then (if 0 ≤ t802 then (if t802 < (x3_12.length : Int) then (some ((x3_12.set (t802 : Int).toNat (rd y805 bt808.1)), bt808.2.1, bt808.2.2)) else (none)) else (none)) else (none)) else (none))) = some (r1, r2, r3) := by first | (rw [hy805]; with_reducible exact H) | (have H2_ := (Option.bind_some _ _).symm.trans H; rw [hy805]; with_reducible exact H2_) | (have H2_ := (Option.bind_some _ _).symm.trans H; with_reducible exact H2_) | with_reducible exact H | (rw [hy805]; exact H) | exact H
      have Ny805 := Aside0.mk hy805
      clear hy805
      replace H := Option.bind_eq_some_iff.mp H
      obtain ⟨⟨t808, t809, t810⟩, A270, H⟩ := H
      replace H : (if 0 ≤ t808 then (if t808 < (y805.length : Int) then (if 0 ≤ t802 then (if t802 < (x3_12.length : Int) then (some ((x3_12.set (t802 : Int).toNat (rd y805 t808)), t809, t810)) else (none)) else (none)) else (none)) else (none)) = some (r1, r2, r3) := H
      have A27 := Aside0.mk A270
      clear A270
      by_cases c28 : 0 ≤ t808
      ·rw [if_pos c28] at H
       have c28b0 : decide (0 ≤ t808) = true := decide_eq_true c28
       clear c28
       by_cases c29 : t808 < (y805.length : Int)
       ·rw [if_pos c29] at H
        have c29b0 : decide (t808 < (y805.length : Int)) = true := decide_eq_true c29
        clear c29
        by_cases c30 : 0 ≤ t802
        ·rw [if_pos c30] at H
         have c30b0 : decide (0 ≤ t802) = true := decide_eq_true c30
         clear c30
         by_cases c31 : t802 < (x3_12.length : Int)
         ·rw [if_pos c31] at H
          have c31b0 : decide (t802 < (x3_12.length : Int)) = true := decide_eq_true c31
          clear c31
          obtain ⟨y812, hy812⟩ : ∃ y_ : List Int, y_ = (x3_12.set (t802 : Int).toNat (rd y805 t808)) := ⟨_, rfl⟩
          replace H : (some (y812, t809, t810)) = some (r1, r2, r3) := by first | (rw [hy812]; with_reducible exact H) | (have H2_ := (Option.bind_some _ _).symm.trans H; rw [hy812]; with_reducible exact H2_) | (have H2_ := (Option.bind_some _ _).symm.trans H; with_reducible exact H2_) | with_reducible exact H | (rw [hy812]; exact H) | exact H
          have Ny812 := Aside0.mk hy812
          clear hy812
          simp only [Option.some.injEq, Prod.mk.injEq] at H
          obtain ⟨rfl, rfl, rfl⟩ := H
          go_wp2_with (first | ((with_reducible refine gate_callee (f := 87) rfl ?_); refine goesL_ (some 29) rfl rfl Try.func87 (by kernel_rfl) rfl #[.pointer (some ⟨g, 0, none⟩), .int .i64 14] rfl (by (try simp only [List.map_toArray, List.map_cons, List.map_nil]); first | done | rfl | (simp only [List.length_drop, List.length_take]; rfl)) ?_; (with_reducible refine (spec_l01Cur_once.calls g s0_0 x1001_12 x1002_12 14 true t800 t801 w0 _ ?side1 ?side2 A24.out).mono ?_); (case side1 => repeat (first | (with_reducible first | exact HI0.out | apply IsS150.alloc | apply IsS150.drewN | apply IsS150.drew | apply IsS150.set_1 | apply IsS150.set_2) | exact HI0.out)); (case side2 => repeat (first | (with_reducible first | exact HB.out | apply below_alloc | apply pw_below_drewN | apply below_drew1 | refine below_set ?_ (IsS150.ge HI0.out)) | exact HB.out)); rintro e w33 ⟨rfl, hi, hb, hk⟩; refine ⟨_, rfl, ?_⟩; have n0_ := Aside0.mk (Kd.R_mono (Kd.R_keep (IsS150.apart (show IsS150 w0 _ g s0_0 x1001_12 x1002_12 from by repeat (first | (with_reducible first | exact HI0.out | apply IsS150.alloc | apply IsS150.drewN | apply IsS150.drew | apply IsS150.set_1 | apply IsS150.set_2) | exact HI0.out)) (by (with_reducible repeat (first | apply Kd.R_alloc | apply Kd.R_drewN | apply Kd.R_drew)); exact HO_3.out) (by decide)) hk (fun _ h => h.2)) (fun _ h => h.1)); have n1_ := Aside0.mk (KeepBut.trans (by repeat (first | (with_reducible first | exact HK.out | apply KeepBut.set_ | apply keep_drewN | apply keep_drew | apply keep_alloc) | exact HK.out)) hk (.inl rfl)); have n2_ := Aside0.mk (hb); have n3_ := Aside0.mk (hi); clear HO_3; clear HK; clear HB; clear HI0; have HO_3 := n0_; have HK := n1_; have HB := n2_; have HI0 := n3_; clear n0_ n1_ n2_ n3_; (try clear hb); (try clear hb2); (try clear hk); (try clear hi); obtain ⟨Ao34, co34, eo34⟩ := Kd.R_slice HO_3.out; subst eo34) | ((with_reducible refine gate_callee (f := 85) rfl ?_); refine goesL_ (some 34) rfl rfl Try.func85 (by kernel_rfl) rfl #[.pointer (some ⟨g, 0, none⟩), .int .i64 (x3_12.length : Int)] rfl (by (try simp only [List.map_toArray, List.map_cons, List.map_nil]); first | done | rfl | (simp only [List.length_drop, List.length_take]; rfl)) ?_; (with_reducible refine (spec_l01Cur_pick.calls g s0_0 t800 t801 (x3_12.length : Int) t802 t803 t804 w0 _ ?side1 ?side2 A26.out).mono ?_); (case side1 => repeat (first | (with_reducible first | exact HI0.out | apply IsS150.alloc | apply IsS150.drewN | apply IsS150.drew | apply IsS150.set_1 | apply IsS150.set_2) | exact HI0.out)); (case side2 => repeat (first | (with_reducible first | exact HB.out | apply below_alloc | apply pw_below_drewN | apply below_drew1 | refine below_set ?_ (IsS150.ge HI0.out)) | exact HB.out)); rintro e w35 ⟨rfl, hi, hb, hk⟩; refine ⟨_, rfl, ?_⟩; have n0_ := Aside0.mk (Kd.R_mono (Kd.R_keep (IsS150.apart (show IsS150 w0 _ g s0_0 t800 t801 from by repeat (first | (with_reducible first | exact HI0.out | apply IsS150.alloc | apply IsS150.drewN | apply IsS150.drew | apply IsS150.set_1 | apply IsS150.set_2) | exact HI0.out)) (by (with_reducible repeat (first | apply Kd.R_alloc | apply Kd.R_drewN | apply Kd.R_drew)); exact HO_3.out) (by decide)) hk (fun _ h => h.2)) (fun _ h => h.1)); have n1_ := Aside0.mk (KeepBut.trans (by repeat (first | (with_reducible first | exact HK.out | apply KeepBut.set_ | apply keep_drewN | apply keep_drew | apply keep_alloc) | exact HK.out)) hk (.inl rfl)); have n2_ := Aside0.mk (hb); have n3_ := Aside0.mk (hi); clear HO_3; clear HK; clear HB; clear HI0; have HO_3 := n0_; have HK := n1_; have HB := n2_; have HI0 := n3_; clear n0_ n1_ n2_ n3_; (try clear hb); (try clear hb2); (try clear hk); (try clear hi)) | ((with_reducible refine gate_dst (N := 35) rfl ?_); refine Kd.R_lit (Kd.int .i64) _ 3 ?hg (N := 35) ?hd (xs := ([16, 17, (-1), 0, 1] : List Int)) (inner := [.int .i64 16, .int .i64 17, .int .i64 (-1), .int .i64 0, .int .i64 1]) (ok := fun _ => True) (okp := fun _ => True) ?hr ?hp (fun _ hk => hk) trivial (Below.refl _ _) (Nat.le_refl _) (by simp) ?_; (case hd => rfl); (case hg => rfl); (case hr => first | (go_simp; done) | (go_simp; rfl)); (case hp => exact (Reps.one (show Kd.M (Kd.int .i64) _ _ _ 16 [.int .i64 16] from rfl) (Reps.one (show Kd.M (Kd.int .i64) _ _ _ 17 [.int .i64 17] from rfl) (Reps.one (show Kd.M (Kd.int .i64) _ _ _ (-1) [.int .i64 (-1)] from rfl) (Reps.one (show Kd.M (Kd.int .i64) _ _ _ 0 [.int .i64 0] from rfl) (Reps.one (show Kd.M (Kd.int .i64) _ _ _ 1 [.int .i64 1] from rfl) (Reps.none _ _))))))); intro v806 w36 ho37 hb hg_ hnew_; clear hg_ hnew_; (first | rw [← Ny805.out] at ho37 | (simp only [Int.reduceToNat] at ho37; rw [← Ny805.out] at ho37)); have n0_ := Aside0.mk (Kd.R_elder' (by (with_reducible repeat (first | apply Kd.R_alloc | apply Kd.R_drewN | apply Kd.R_drew)); exact HO_3.out) (Kd.R_base ho37) hb); have n1_ := Aside0.mk (Kd.R_lower (Kd.R_new' ho37 (Kd.R_lt (by (with_reducible repeat (first | apply Kd.R_alloc | apply Kd.R_drewN | apply Kd.R_drew)); exact HO_3.out))) (keep_size (w := w) (g := g) (row := none) (by repeat (first | (with_reducible first | exact HK.out | apply KeepBut.set_ | apply keep_drewN | apply keep_drew | apply keep_alloc) | exact HK.out)))); have n2_ := Aside0.mk (IsS150.below (by repeat (first | (with_reducible first | exact HI0.out | apply IsS150.alloc | apply IsS150.drewN | apply IsS150.drew | apply IsS150.set_1 | apply IsS150.set_2) | exact HI0.out)) hb); have n3_ := Aside0.mk (KeepBut.trans (by repeat (first | (with_reducible first | exact HK.out | apply KeepBut.set_ | apply keep_drewN | apply keep_drew | apply keep_alloc) | exact HK.out)) (KeepBut.of_below hb g none) (.inl rfl)); have n4_ := Aside0.mk (below_step (by repeat (first | (with_reducible first | exact HB.out | apply below_alloc | apply pw_below_drewN | apply below_drew1 | refine below_set ?_ (IsS150.ge HI0.out)) | exact HB.out)) hb); clear HO_3; clear HI0; clear HK; clear HB; have HO_3 := n0_; have HO807 := n1_; have HI0 := n2_; have HK := n3_; have HB := n4_; clear n0_ n1_ n2_ n3_ n4_; clear hb ho37) | ((with_reducible refine gate_callee (f := 85) rfl ?_); refine goesL_ (some 37) rfl rfl Try.func85 (by kernel_rfl) rfl #[.pointer (some ⟨g, 0, none⟩), .int .i64 5] rfl (by (try simp only [List.map_toArray, List.map_cons, List.map_nil]); first | done | rfl | (simp only [List.length_drop, List.length_take]; rfl)) ?_; (with_reducible refine (spec_l01Cur_pick.calls g s0_0 t803 t804 5 t808 t809 t810 w0 _ ?side1 ?side2 A27.out).mono ?_); (case side1 => repeat (first | (with_reducible first | exact HI0.out | apply IsS150.alloc | apply IsS150.drewN | apply IsS150.drew | apply IsS150.set_1 | apply IsS150.set_2) | exact HI0.out)); (case side2 => repeat (first | (with_reducible first | exact HB.out | apply below_alloc | apply pw_below_drewN | apply below_drew1 | refine below_set ?_ (IsS150.ge HI0.out)) | exact HB.out)); rintro e w38 ⟨rfl, hi, hb, hk⟩; refine ⟨_, rfl, ?_⟩; have n0_ := Aside0.mk (Kd.R_mono (Kd.R_keep (IsS150.apart (show IsS150 w0 _ g s0_0 t803 t804 from by repeat (first | (with_reducible first | exact HI0.out | apply IsS150.alloc | apply IsS150.drewN | apply IsS150.drew | apply IsS150.set_1 | apply IsS150.set_2) | exact HI0.out)) (by (with_reducible repeat (first | apply Kd.R_alloc | apply Kd.R_drewN | apply Kd.R_drew)); exact HO_3.out) (by decide)) hk (fun _ h => h.2)) (fun _ h => h.1)); have n1_ := Aside0.mk (Kd.R_mono (Kd.R_keep (IsS150.apart (show IsS150 w0 _ g s0_0 t803 t804 from by repeat (first | (with_reducible first | exact HI0.out | apply IsS150.alloc | apply IsS150.drewN | apply IsS150.drew | apply IsS150.set_1 | apply IsS150.set_2) | exact HI0.out)) (by (with_reducible repeat (first | apply Kd.R_alloc | apply Kd.R_drewN | apply Kd.R_drew)); exact HO807.out) (by decide)) hk (fun _ h => h.2)) (fun _ h => h.1)); have n2_ := Aside0.mk (KeepBut.trans (by repeat (first | (with_reducible first | exact HK.out | apply KeepBut.set_ | apply keep_drewN | apply keep_drew | apply keep_alloc) | exact HK.out)) hk (.inl rfl)); have n3_ := Aside0.mk (hb); have n4_ := Aside0.mk (hi); clear HO_3; clear HO807; clear HK; clear HB; clear HI0; have HO_3 := n0_; have HO807 := n1_; have HK := n2_; have HB := n3_; have HI0 := n4_; clear n0_ n1_ n2_ n3_ n4_; (try clear hb); (try clear hb2); (try clear hk); (try clear hi); obtain ⟨Ao39, co39, eo39⟩ := Kd.R_slice HO807.out; subst eo39; have p811 : 0 ≤ (t808 : Int) := of_decide_eq_true (by first | (with_reducible assumption) | assumption); have q811 : t808 < (y805.length : Int) := of_decide_eq_true (by first | (with_reducible assumption) | assumption); obtain ⟨ad811, e811, hx811_0⟩ := Kd.at_int (Kd.R_reads' HO807.out).2.2 t808 p811 q811; cases e811; replace p811 := eq_true p811; replace q811 := eq_true q811; have p32 : 0 ≤ (t802 : Int) := of_decide_eq_true (by first | (with_reducible assumption) | assumption); have q32 : (t802 : Int) < ((x3_12.length : Int) : Int) := of_decide_eq_true (by first | (with_reducible assumption) | assumption); obtain ⟨go32, co32, eo32, gb32, gl32, cl32, HG32⟩ := Kd.R_form HO_3.out (by omega); (first | cases eo32 | (injection eo32 with ea_ en_ ec_; (first | subst ea_ | (injection ea_ with ea_; subst ea_)); subst ec_; clear en_)); have GB32 := Aside0.mk gb32; have GG32 := Aside0.mk HG32; clear gb32 gl32 HG32; obtain ⟨hx32_0, hf32_0⟩ := Kd.R_celln 0 HO_3.out (t802 : Int) p32 q32; replace p32 := eq_true p32; replace q32 := eq_true q32; have n_ := Aside0.mk (Kd.R_mono (ok' := (fun k_ => some k_ ≠ (.slice (some ad811) y805.length co39 : Value).ownBlock)) HO_3.out (fun k_ hk => hk.2)); clear HO_3; have HO_3 := n_; clear n_; obtain ⟨hy40_, hz40_⟩ := Kd.R_celln 0 HO_3.out (t802 : Int) (of_decide_eq_true (by first | (with_reducible assumption) | assumption)) (of_decide_eq_true (by first | (with_reducible assumption) | assumption)); have HP40 := Kd.R_putg HO_3.out (t802 : Int) (rd y805 t808)) | ((with_reducible refine gate_store (t := 3) (p := 40) rfl ?_); refine store_event (t := 3) (p := 40) (v := ?vo_w41) (w1 := (w38.setCell ⟨go32, (t802 : Int).toNat, none⟩ (.int .i64 (rd y805 t808)))) ?hg ?ho ?hn ?hr ?_; (case ho => rfl); (case hg => rfl); (case hn => rfl); (case hr => first | (go_simp; done) | (go_simp; rfl)); intro w41 hw; have hg : w38.grownBy w41 (some go32) := (by rw [hw]; exact HP40.2); have hp_ : Kd.R (Kd.int .i64) 3 w41 w.heap.size (fun k_ => some k_ ≠ (.slice (some ad811) y805.length co39 : Value).ownBlock) (.slice (some ⟨go32, 0, none⟩) x3_12.length co34) y812 := (by rw [hw, Ny812.out]; exact HP40.1); clear HP40; have n0_ := Aside0.mk (hp_); have n1_ := Aside0.mk (IsS150.grown (by repeat (first | (with_reducible first | exact HI0.out | apply IsS150.alloc | apply IsS150.drewN | apply IsS150.drew | apply IsS150.set_1 | apply IsS150.set_2) | exact HI0.out)) hg (IsS150.own_ne HI0.out HO_3.out (by decide))); have n2_ := Aside0.mk (Kd.R_after (v := (.slice (some ⟨go32, 0, none⟩) x3_12.length co34)) (v1 := (.slice (some ⟨go32, 0, none⟩) x3_12.length co34)) (ok := (fun _ => True)) (by (with_reducible repeat (first | apply Kd.R_alloc | apply Kd.R_drewN | apply Kd.R_drew)); exact HO807.out) hg (.inl rfl)); have n3_ := Aside0.mk ((by rw [hw]; exact below_set (HB.out) (Nat.le_trans HL.out GB32.out) : Below w0.heap.size w0 w41)); have n4_ := Aside0.mk (KeepBut.trans (by repeat (first | (with_reducible first | exact HK.out | apply KeepBut.set_ | apply keep_drewN | apply keep_drew | apply keep_alloc) | exact HK.out)) (KeepBut.of_grown hg g) (Kd.R_base2 HO_3.out)); clear HO_3; clear HI0; clear HO807; clear HB; clear HK; have HO_3 := n0_; have HI0 := n1_; have HO807 := n2_; have HB := n3_; have HK := n4_; clear n0_ n1_ n2_ n3_ n4_; clear hg hw hp_))
          go_ret
          exact ⟨_, by first | rfl | (simp [errW_none, errW_some] <;> rfl) | (simp [*, errW_none, errW_some] <;> rfl), by (with_reducible repeat (first | apply Kd.R_alloc | apply Kd.R_drewN | apply Kd.R_drew)); exact Kd.R_mono HO_3.out (fun _ hk => trivial), by repeat (first | (with_reducible first | exact HI0.out | apply IsS150.alloc | apply IsS150.drewN | apply IsS150.drew | apply IsS150.set_1 | apply IsS150.set_2) | exact HI0.out), by repeat (first | (with_reducible first | exact HB.out | apply below_alloc | apply pw_below_drewN | apply below_drew1 | refine below_set ?_ (IsS150.ge HI0.out)) | exact HB.out), by repeat (first | (with_reducible first | exact HK.out | apply KeepBut.set_ | apply keep_drewN | apply keep_drew | apply keep_alloc) | exact HK.out)⟩
         ·rw [if_neg c31] at H
          exact absurd H (by simp)
        ·rw [if_neg c30] at H
         exact absurd H (by simp)
       ·rw [if_neg c29] at H
        exact absurd H (by simp)
      ·rw [if_neg c28] at H
       exact absurd H (by simp)
     ·replace c25 := Bool.eq_false_iff.mpr c25
      subst c25
      have H1 : (some (x3_12, t800, t801)) = some (r1, r2, r3) := by rw [if_neg (show ¬ (false = true) by decide)] at H; exact H
      clear H
      have H := H1
      clear H1
      simp only [Option.some.injEq, Prod.mk.injEq] at H
      obtain ⟨rfl, rfl, rfl⟩ := H
      go_wp2_with (first | ((with_reducible refine gate_callee (f := 87) rfl ?_); refine goesL_ (some 29) rfl rfl Try.func87 (by kernel_rfl) rfl #[.pointer (some ⟨g, 0, none⟩), .int .i64 14] rfl (by (try simp only [List.map_toArray, List.map_cons, List.map_nil]); first | done | rfl | (simp only [List.length_drop, List.length_take]; rfl)) ?_; (with_reducible refine (spec_l01Cur_once.calls g s0_0 x1001_12 x1002_12 14 false t800 t801 w0 _ ?side1 ?side2 A24.out).mono ?_); (case side1 => repeat (first | (with_reducible first | exact HI0.out | apply IsS150.alloc | apply IsS150.drewN | apply IsS150.drew | apply IsS150.set_1 | apply IsS150.set_2) | exact HI0.out)); (case side2 => repeat (first | (with_reducible first | exact HB.out | apply below_alloc | apply pw_below_drewN | apply below_drew1 | refine below_set ?_ (IsS150.ge HI0.out)) | exact HB.out)); rintro e w42 ⟨rfl, hi, hb, hk⟩; refine ⟨_, rfl, ?_⟩; have n0_ := Aside0.mk (Kd.R_mono (Kd.R_keep (IsS150.apart (show IsS150 w0 _ g s0_0 x1001_12 x1002_12 from by repeat (first | (with_reducible first | exact HI0.out | apply IsS150.alloc | apply IsS150.drewN | apply IsS150.drew | apply IsS150.set_1 | apply IsS150.set_2) | exact HI0.out)) (by (with_reducible repeat (first | apply Kd.R_alloc | apply Kd.R_drewN | apply Kd.R_drew)); exact HO_3.out) (by decide)) hk (fun _ h => h.2)) (fun _ h => h.1)); have n1_ := Aside0.mk (KeepBut.trans (by repeat (first | (with_reducible first | exact HK.out | apply KeepBut.set_ | apply keep_drewN | apply keep_drew | apply keep_alloc) | exact HK.out)) hk (.inl rfl)); have n2_ := Aside0.mk (hb); have n3_ := Aside0.mk (hi); clear HO_3; clear HK; clear HB; clear HI0; have HO_3 := n0_; have HK := n1_; have HB := n2_; have HI0 := n3_; clear n0_ n1_ n2_ n3_; (try clear hb); (try clear hb2); (try clear hk); (try clear hi)))
      go_ret
      exact ⟨_, by first | rfl | (simp [errW_none, errW_some] <;> rfl) | (simp [*, errW_none, errW_some] <;> rfl), by (with_reducible repeat (first | apply Kd.R_alloc | apply Kd.R_drewN | apply Kd.R_drew)); exact HO_3.out, by repeat (first | (with_reducible first | exact HI0.out | apply IsS150.alloc | apply IsS150.drewN | apply IsS150.drew | apply IsS150.set_1 | apply IsS150.set_2) | exact HI0.out), by repeat (first | (with_reducible first | exact HB.out | apply below_alloc | apply pw_below_drewN | apply below_drew1 | refine below_set ?_ (IsS150.ge HI0.out)) | exact HB.out), by repeat (first | (with_reducible first | exact HK.out | apply KeepBut.set_ | apply keep_drewN | apply keep_drew | apply keep_alloc) | exact HK.out)⟩
def lnP (c : List Int) (m : Nat) (r : List Int × Int × Int) : Prop := CurAt c m r.2.1 r.2.2 ∧ r.1.length ≤ 300
theorem spec_l08DrawLens.j2_ev (c : List Int) (m : Nat) (a s : Int) (hc : CurAt c m a s) (hm : m ≤ 900000000) (x : List Int) (h1 : 1 ≤ x.length) (h2 : x.length ≤ 300) : EvP (fun k => spec_l08DrawLens.j2 k x c a s) (lnP c (m + 10)) := by
 refine EvP.step (fun _ => by rw [spec_l08DrawLens.j2]) ?_
 refine hc.once (by omega) 14 (fun b a1 s1 hc1 => ?_)
 refine EvP.either (fun _ => ?_) (fun _ => EvP.now ⟨hc1.up (by omega), h2⟩)
 refine hc1.pick (by omega) _ (fun p a2 s2 p0 p1 hc2 => ?_)
 refine EvP.some ?_
 refine hc2.pick (by omega) 5 (fun q a3 s3 q0 q1 hc3 => ?_)
 refine EvP.ip q0 (EvP.ip ?_ (EvP.ip p0 (EvP.ip ?_ (EvP.now ⟨hc3.up (by omega), by simp only [List.length_set]; exact h2⟩))))
 ·show q < 5
  omega
 ·show p < x.length
  omega
theorem spec_l08DrawLens.l0_ev (c : List Int) : ∀ (n m : Nat) (a s : Int) (x : List Int), CurAt c m a s → m + 2 * n ≤ 800000000 → 1 ≤ x.length + n → x.length + n ≤ 300 → EvP (fun k => spec_l08DrawLens.l0 k x (n : Int) c a s) (lnP c (m + 2 * n + 10)) := by
 intro n
 induction n with
 | zero =>
  intro m a s x hc hm h1 h2
  exact EvP.step (fun _ => by rw [spec_l08DrawLens.l0]) (EvP.ng (by omega) ((spec_l08DrawLens.j2_ev c m a s hc (by omega) x (by omega) (by omega)).mono (fun r hr => ⟨hr.1.up (by omega), hr.2⟩)))
 | succ n ih =>
  intro m a s x hc hm h1 h2
  refine EvP.step (fun _ => by rw [spec_l08DrawLens.l0]) (EvP.ip (by omega) ?_)
  refine hc.pick (by omega) 7 (fun v a1 s1 _ _ hc1 => ?_)
  refine EvP.ip (by omega) ?_
  rw [show wrap64 (((n + 1 : Nat) : Int) - 1) = (n : Int) by rw [wrap_in _ (by omega) (by omega)]; omega]
  exact (ih (m + 2) a1 s1 _ hc1 (by omega) (by simp; omega) (by simp; omega)).mono (fun r hr => ⟨hr.1.up (by omega), hr.2⟩)
theorem spec_l08DrawLens.j0_ev (c : List Int) (m : Nat) (a s : Int) (hc : CurAt c m a s) (hm : m ≤ 700000000) (x : List Int) (b : Bool) (hb : b = true ∨ 1 ≤ x.length) (h2 : x.length ≤ 300) : EvP (fun k => spec_l08DrawLens.j0 k x b c a s) (lnP c (m + 100)) := by
 refine EvP.step (fun _ => by rw [spec_l08DrawLens.j0]) ?_
 refine EvP.either (fun _ => ?_) (fun hb2 => ?_)
 ·refine hc.size (by omega) 12 (by omega) (by omega) (fun v a1 s1 v0 v1 hc1 => ?_)
  obtain ⟨n, rfl⟩ : ∃ n : Nat, v = n := ⟨v.toNat, by omega⟩
  show EvP (fun k => spec_l08DrawLens.l0 k [] (wrap64 (1 + (n : Int))) c a1 s1) _
  rw [show wrap64 (1 + (n : Int)) = ((n + 1 : Nat) : Int) by rw [wrap_in _ (by omega) (by omega)]; omega]
  exact (spec_l08DrawLens.l0_ev c (n + 1) (m + 2) a1 s1 [] hc1 (by omega) (by simp) (by simp; omega)).mono (fun r hr => ⟨hr.1.up (by omega), hr.2⟩)
 ·have h1 : 1 ≤ x.length := by
   rcases hb with h | h
   ·exact absurd h hb2
   ·exact h
  exact (spec_l08DrawLens.j2_ev c m a s hc (by omega) x h1 h2).mono (fun r hr => ⟨hr.1.up (by omega), hr.2⟩)
theorem spec_l08DrawLens.ev (c : List Int) (m : Nat) (a s : Int) (hc : CurAt c m a s) (hm : m ≤ 600000000) : EvP (fun k => spec_l08DrawLens.f k c a s) (lnP c (m + 4000)) := by
 unfold spec_l08DrawLens.f
 refine EvP.bind (spec_l08DrawFreqs.ev c m a s hc (by omega)) (fun r hr => ?_)
 obtain ⟨fr, a1, s1⟩ := r
 obtain ⟨hc1, h1, h2⟩ := hr
 simp only [] at hc1 h1 h2
 refine EvP.bind (spec_BestLens.ev fr) (fun x hx => ?_)
 refine EvP.either (fun _ => ?_) (fun hne => ?_)
 ·exact (spec_l08DrawLens.j0_ev c (m + 3000) a1 s1 hc1 (by omega) x true (.inl rfl) (by omega)).mono (fun r hr => ⟨hr.1.up (by omega), hr.2⟩)
 ·refine hc1.once (by omega) 4 (fun b a2 s2 hc2 => ?_)
  exact (spec_l08DrawLens.j0_ev c (m + 3000 + 2) a2 s2 hc2 (by omega) x b (.inr (by omega)) (by omega)).mono (fun r hr => ⟨hr.1.up (by omega), hr.2⟩)
end Go.Proofs.Ytcjjmfpkhhdmlaa.G


namespace Go.Proofs.Ytcjjmfpkhhdmlaa.G
open Go.RowKit Go.Proofs.YtcjjmfpkhhdmlaaW.PrintWords Go.Proofs.YtcjjmfpkhhdmlaaW.PrintLast Go.Proofs.YtcjjmfpkhhdmlaaW.PrintMore
attribute [local go_sem] max2_int min2_int max_two min_two max_three min_three max_four min_four   -- for this text's walks alone
mutual
def spec_l08DrawSymbols.l0 : Nat → List Int → List Int → Int → List Int → Int → Int → Option (List Int × Int × Int)
 | 0, _, _, _, _, _, _ => none
 | k + 1, x1, x5, x6, x1000, x1001, x1002 => if x6 > 0 then (spec_l08DrawSymbols.j1 k x1 x5 x6 (decide ((x1.length : Int) > 0)) x1000 x1001 x1002) else (spec_l08DrawSymbols.j1 k x1 x5 x6 false x1000 x1001 x1002)
def spec_l08DrawSymbols.j1 : Nat → List Int → List Int → Int → Bool → List Int → Int → Int → Option (List Int × Int × Int)
 | 0, _, _, _, _, _, _, _ => none
 | k + 1, x1, x5, x6, x17, x1000, x1001, x1002 => if x17 = true then ((spec_l01Cur_pick.f x1000 x1001 x1002 (x1.length : Int)).bind fun bt819 => (if 0 ≤ bt819.1 then (if bt819.1 < (x1.length : Int) then (if (rd x1 bt819.1) > 0 then (if x5.length < 17592186044416 then (spec_l08DrawSymbols.l0 k x1 (x5 ++ [bt819.1]) (wrap64 (x6 - 1)) x1000 bt819.2.1 bt819.2.2) else (none)) else (spec_l08DrawSymbols.l0 k x1 x5 (wrap64 (x6 - 1)) x1000 bt819.2.1 bt819.2.2)) else (none)) else (none))) else (some (x5, x1001, x1002))
end
def spec_l08DrawSymbols.f (k : Nat) (s0_0 : List Int) (s0_1 : Int) (s0_2 : Int) (l1 : List Int) : Option (List Int × Int × Int) := (spec_l01Cur_size.f s0_0 s0_1 s0_2 30).bind fun bt816 => (spec_l08DrawSymbols.l0 k l1 (([] : List Int)) bt816.1 s0_0 bt816.2.1 bt816.2.2)
set_option maxHeartbeats 8000000 in
set_option maxRecDepth 100000 in
theorem spec_l08DrawSymbols.calls (k : Nat) (g : Nat) (s0_0 : List Int) (s0_1 : Int) (s0_2 : Int) (A1 : Option Addr) (c1 : Nat) (l1 : List Int) (r1 : List Int) (r2 : Int) (r3 : Int) (w0 w : World) (hI : IsS150 w0 w g s0_0 s0_1 s0_2) (hB : Below w0.heap.size w0 w) (hr1 : Kd.C (Kd.int .i64) w A1 l1.length l1) (hc1 : l1.length ≤ c1) (hf1 : ∀ ad, A1 = some ad → 0 < l1.length → ad.block ≠ g) (h : spec_l08DrawSymbols.f k s0_0 s0_1 s0_2 l1 = some (r1, r2, r3)) :
  Calls Try.prog 119 #[.pointer (some ⟨g, 0, none⟩), .slice A1 l1.length c1] w fun e w' => ∃ v0_ : Value, e = .returned (v0_) ∧ Kd.R (Kd.int .i64) 3 w' w.heap.size (fun _ => True) v0_ r1 ∧ IsS150 w0 w' g s0_0 r2 r3 ∧ Below w0.heap.size w0 w' ∧ KeepBut w w' g none := by
 have HR1 := Aside0.mk hr1
 have HC1 := Aside0.mk hc1
 clear hr1 hc1
 have HI0 := Aside0.mk hI
 have HK := Aside0.mk (KeepBut.refl w g none)
 have HL := Aside0.mk hB.size
 clear hI
 have HW0 := Aside0.mk hB.size
 have HB := Aside0.mk hB
 clear hB
 have H : ((spec_l01Cur_size.f s0_0 s0_1 s0_2 30).bind fun bt816 => (spec_l08DrawSymbols.l0 k l1 (([] : List Int)) bt816.1 s0_0 bt816.2.1 bt816.2.2)) = some (r1, r2, r3) := h
 clear h
 obtain ⟨y813, hy813⟩ : ∃ y_ : List Int, y_ = (([] : List Int)) := ⟨_, rfl⟩
 replace H : ((spec_l01Cur_size.f s0_0 s0_1 s0_2 30).bind fun bt816 => (spec_l08DrawSymbols.l0 k l1 y813 bt816.1 s0_0 bt816.2.1 bt816.2.2)) = some (r1, r2, r3) := by first | (rw [hy813]; with_reducible exact H) | (have H2_ := (Option.bind_some _ _).symm.trans H; rw [hy813]; with_reducible exact H2_) | (have H2_ := (Option.bind_some _ _).symm.trans H; with_reducible exact H2_) | with_reducible exact H | (rw [hy813]; exact H) | exact H
 have Ny813 := Aside0.mk hy813
 clear hy813
 replace H := Option.bind_eq_some_iff.mp H
 obtain ⟨⟨t816, t817, t818⟩, A30, H⟩ := H
 replace H : (spec_l08DrawSymbols.l0 k l1 y813 t816 s0_0 t817 t818) = some (r1, r2, r3) := H
 have A3 := Aside0.mk A30
 clear A30
 have H' := Aside0.mk H
 clear H
 go_enter Try.func119, Try.ntmps119
 go_wp2_with (first | ((with_reducible refine gate_dst (N := 8) rfl ?_); (try (refine gate_guard (by rfl) ?_; dsimp only)); refine Kd.R_lit (Kd.int .i64) _ 3 ?hg (N := 8) ?hd (xs := ([] : List Int)) (inner := []) (ok := fun _ => True) (okp := fun _ => True) ?hr ?hp (fun _ hk => hk) trivial (Below.refl _ _) (Nat.le_refl _) (by simp) ?_; (case hd => rfl); (case hg => rfl); (case hr => first | (go_simp; done) | (go_simp; rfl)); (case hp => exact (Reps.none _ _)); intro v814 w4 ho5 hb hg_ hnew_; clear hg_ hnew_; (first | rw [← Ny813.out] at ho5 | (simp only [Int.reduceToNat] at ho5; rw [← Ny813.out] at ho5)); have n0_ := Aside0.mk (Kd.R_lower ho5 (keep_size (w := w) (g := g) (row := none) (by repeat (first | (with_reducible first | exact HK.out | apply KeepBut.set_ | apply keep_drewN | apply keep_drew | apply keep_alloc) | exact HK.out)))); have n1_ := Aside0.mk (IsS150.below (by repeat (first | (with_reducible first | exact HI0.out | apply IsS150.alloc | apply IsS150.drewN | apply IsS150.drew | apply IsS150.set_1 | apply IsS150.set_2) | exact HI0.out)) hb); have n2_ := Aside0.mk (KeepBut.trans (by repeat (first | (with_reducible first | exact HK.out | apply KeepBut.set_ | apply keep_drewN | apply keep_drew | apply keep_alloc) | exact HK.out)) (KeepBut.of_below hb g none) (.inl rfl)); have n3_ := Aside0.mk (below_step (by repeat (first | (with_reducible first | exact HB.out | apply below_alloc | apply pw_below_drewN | apply below_drew1 | refine below_set ?_ (IsS150.ge HI0.out)) | exact HB.out)) hb); clear HI0; clear HK; clear HB; have HO815 := n0_; have HI0 := n1_; have HK := n2_; have HB := n3_; clear n0_ n1_ n2_ n3_; clear hb ho5) | ((with_reducible refine gate_callee (f := 153) rfl ?_); refine goesL_ (some 10) rfl rfl Try.func153 (by kernel_rfl) rfl #[.pointer (some ⟨g, 0, none⟩), .int .i64 30] rfl (by (try simp only [List.map_toArray, List.map_cons, List.map_nil]); first | done | rfl | (simp only [List.length_drop, List.length_take]; rfl)) ?_; (with_reducible refine (spec_l01Cur_size.calls g s0_0 s0_1 s0_2 30 t816 t817 t818 w0 _ ?side1 ?side2 A3.out).mono ?_); (case side1 => repeat (first | (with_reducible first | exact HI0.out | apply IsS150.alloc | apply IsS150.drewN | apply IsS150.drew | apply IsS150.set_1 | apply IsS150.set_2) | exact HI0.out)); (case side2 => repeat (first | (with_reducible first | exact HB.out | apply below_alloc | apply pw_below_drewN | apply below_drew1 | refine below_set ?_ (IsS150.ge HI0.out)) | exact HB.out)); rintro e w6 ⟨rfl, hi, hb, hk⟩; refine ⟨_, rfl, ?_⟩; have n0_ := Aside0.mk (Kd.R_mono (Kd.R_keep (IsS150.apart (show IsS150 w0 _ g s0_0 s0_1 s0_2 from by repeat (first | (with_reducible first | exact HI0.out | apply IsS150.alloc | apply IsS150.drewN | apply IsS150.drew | apply IsS150.set_1 | apply IsS150.set_2) | exact HI0.out)) (by (with_reducible repeat (first | apply Kd.R_alloc | apply Kd.R_drewN | apply Kd.R_drew)); exact HO815.out) (by decide)) hk (fun _ h => h.2)) (fun _ h => h.1)); have n1_ := Aside0.mk (KeepBut.trans (by repeat (first | (with_reducible first | exact HK.out | apply KeepBut.set_ | apply keep_drewN | apply keep_drew | apply keep_alloc) | exact HK.out)) hk (.inl rfl)); have n2_ := Aside0.mk (hb); have n3_ := Aside0.mk (hi); clear HO815; clear HK; clear HB; clear HI0; have HO815 := n0_; have HK := n1_; have HB := n2_; have HI0 := n3_; clear n0_ n1_ n2_ n3_; (try clear hb); (try clear hb2); (try clear hk); (try clear hi)))
 go_loopg [5, 6] k (fun kq v5 v6 w' => ∃ (x5_1 : List Int) (x6_1 : Int) (x1001_1 : Int) (x1002_1 : Int), v6 = .int .i64 x6_1 ∧ Aside0 (spec_l08DrawSymbols.l0 kq l1 x5_1 x6_1 s0_0 x1001_1 x1002_1 = some (r1, r2, r3)) ∧ Aside0 (kq ≤ k) ∧ Aside0 (Kd.R (Kd.int .i64) 3 w' w.heap.size (fun _ => True) v5 x5_1) ∧ Aside0 (IsS150 w0 w' g s0_0 x1001_1 x1002_1) ∧ Aside0 (KeepBut w w' g none) ∧ Aside0 (Below w0.heap.size w0 w'))
 case atStart => exact ⟨(y813), (t816), (t817), (t818), (by first | rfl | (simp; done) | (simp [*]; done)), H', ⟨Nat.le_refl _⟩, ⟨by (with_reducible repeat (first | apply Kd.R_alloc | apply Kd.R_drewN | apply Kd.R_drew)); exact HO815.out⟩, ⟨by repeat (first | (with_reducible first | exact HI0.out | apply IsS150.alloc | apply IsS150.drewN | apply IsS150.drew | apply IsS150.set_1 | apply IsS150.set_2) | exact HI0.out)⟩, ⟨by repeat (first | (with_reducible first | exact HK.out | apply KeepBut.set_ | apply keep_drewN | apply keep_drew | apply keep_alloc) | exact HK.out)⟩, ⟨by repeat (first | (with_reducible first | exact HB.out | apply below_alloc | apply pw_below_drewN | apply below_drew1 | refine below_set ?_ (IsS150.ge HI0.out)) | exact HB.out)⟩⟩
 case round =>
  clear H'
  try clear c1
  try clear p2
  obtain ⟨x5_1, x6_1, x1001_1, x1002_1, rfl, HA, HK1, HO_5, HI0, HK, HB⟩ := hrel
  cases gk with
  | zero => exact absurd HA.out (by simp [spec_l08DrawSymbols.l0])
  | succ k1 =>
   have H := HA.out
   clear HA
   simp only [spec_l08DrawSymbols.l0] at H
   have HC7 := Aside0.mk H
   clear H
   go_upto_region 3 with (fail)
   go_cut [17] (fun v17 wc => ∃ (kq : Nat) (x17_6 : Bool), v17 = .bool x17_6 ∧ Aside0 (spec_l08DrawSymbols.j1 kq l1 x5_1 x6_1 x17_6 s0_0 x1001_1 x1002_1 = some (r1, r2, r3)) ∧ Aside0 (kq ≤ k1) ∧ Aside0 (Kd.R (Kd.int .i64) 3 wc w.heap.size (fun _ => True) u5 x5_1) ∧ Aside0 (IsS150 w0 wc g s0_0 x1001_1 x1002_1) ∧ Aside0 (KeepBut w wc g none) ∧ Aside0 (Below w0.heap.size w0 wc))
   case first =>
    have H := HC7.out
    clear HC7
    by_cases c8 : x6_1 > 0
    ·rw [if_pos c8] at H
     have c8b0 : decide (0 < x6_1) = true := decide_eq_true c8
     clear c8
     (first | rw [c8b0] | (simp only [i64_w, i32_w]; rw [c8b0]) | skip)
     have H' := Aside0.mk H
     clear H
     go_wp2
     go_meet
     case rel => exact ⟨_, (decide ((l1.length : Int) > 0)), (by first | rfl | (simp; done) | (simp [*]; done)), H', ⟨by have := HK1.out; first | omega | exact Nat.le_refl _⟩, ⟨by (with_reducible repeat (first | apply Kd.R_alloc | apply Kd.R_drewN | apply Kd.R_drew)); exact HO_5.out⟩, ⟨by repeat (first | (with_reducible first | exact HI0.out | apply IsS150.alloc | apply IsS150.drewN | apply IsS150.drew | apply IsS150.set_1 | apply IsS150.set_2) | exact HI0.out)⟩, ⟨by repeat (first | (with_reducible first | exact HK.out | apply KeepBut.set_ | apply keep_drewN | apply keep_drew | apply keep_alloc) | exact HK.out)⟩, ⟨by repeat (first | (with_reducible first | exact HB.out | apply below_alloc | apply pw_below_drewN | apply below_drew1 | refine below_set ?_ (IsS150.ge HI0.out)) | exact HB.out)⟩⟩
    ·rw [if_neg c8] at H
     have c8b0 : decide (0 < x6_1) = false := decide_eq_false c8
     clear c8
     (first | rw [c8b0] | (simp only [i64_w, i32_w]; rw [c8b0]) | skip)
     have H' := Aside0.mk H
     clear H
     go_wp2
     go_meet
     case rel => exact ⟨_, (false), (by first | rfl | (simp; done) | (simp [*]; done)), H', ⟨by have := HK1.out; first | omega | exact Nat.le_refl _⟩, ⟨by (with_reducible repeat (first | apply Kd.R_alloc | apply Kd.R_drewN | apply Kd.R_drew)); exact HO_5.out⟩, ⟨by repeat (first | (with_reducible first | exact HI0.out | apply IsS150.alloc | apply IsS150.drewN | apply IsS150.drew | apply IsS150.set_1 | apply IsS150.set_2) | exact HI0.out)⟩, ⟨by repeat (first | (with_reducible first | exact HK.out | apply KeepBut.set_ | apply keep_drewN | apply keep_drew | apply keep_alloc) | exact HK.out)⟩, ⟨by repeat (first | (with_reducible first | exact HB.out | apply below_alloc | apply pw_below_drewN | apply below_drew1 | refine below_set ?_ (IsS150.ge HI0.out)) | exact HB.out)⟩⟩
   case rest =>
    clear HC7
    try clear c1
    try clear p2
    try clear c8
    try clear c8b0
    try clear p2
    obtain ⟨kq, x17_6, rfl, HA, HJ6, HO_5, HI0, HK, HB⟩ := hcut
    cases kq with
    | zero => exact absurd HA.out (by simp [spec_l08DrawSymbols.j1])
    | succ kj6 =>
     have H := HA.out
     clear HA
     simp only [spec_l08DrawSymbols.j1] at H
     by_cases c9 : x17_6 = true
     ·subst c9
      have H1 : ((spec_l01Cur_pick.f s0_0 x1001_1 x1002_1 (l1.length : Int)).bind fun bt819 => (if 0 ≤ bt819.1 then (if bt819.1 < (l1.length : Int) then (if (rd l1 bt819.1) > 0 then (if x5_1.length < 17592186044416 then (spec_l08DrawSymbols.l0 kj6 l1 (x5_1 ++ [bt819.1]) (wrap64 (x6_1 - 1)) s0_0 bt819.2.1 bt819.2.2) else (none)) else (spec_l08DrawSymbols.l0 kj6 l1 x5_1 (wrap64 (x6_1 - 1)) s0_0 bt819.2.1 bt819.2.2)) else (none)) else (none))) = some (r1, r2, r3) := by rw [if_pos rfl] at H; exact H
      clear H
      have H := H1
      clear H1
      replace H := Option.bind_eq_some_iff.mp H
      obtain ⟨⟨t819, t820, t821⟩, A100, H⟩ := H
      replace H : (if 0 ≤ t819 then (if t819 < (l1.length : Int) then (if (rd l1 t819) > 0 then (if x5_1.length < 17592186044416 then (spec_l08DrawSymbols.l0 kj6 l1 (x5_1 ++ [t819]) (wrap64 (x6_1 - 1)) s0_0 t820 t821) else (none)) else (spec_l08DrawSymbols.l0 kj6 l1 x5_1 (wrap64 (x6_1 - 1)) s0_0 t820 t821)) else (none)) else (none)) = some (r1, r2, r3) := H
      have A10 := Aside0.mk A100
      clear A100
      by_cases c11 : 0 ≤ t819
      ·rw [if_pos c11] at H
       have c11b0 : decide (0 ≤ t819) = true := decide_eq_true c11
       clear c11
       by_cases c12 : t819 < (l1.length : Int)
       ·rw [if_pos c12] at H
        have c12b0 : decide (t819 < (l1.length : Int)) = true := decide_eq_true c12
        clear c12
        by_cases c13 : (rd l1 t819) > 0
        ·rw [if_pos c13] at H
         have c13b0 : decide (0 < (rd l1 t819)) = true := decide_eq_true c13
         clear c13
         by_cases c14 : x5_1.length < 17592186044416
         ·rw [if_pos c14] at H
          have LMc14 := Aside0.mk c14
          clear c14
          obtain ⟨y823, hy823⟩ : ∃ y_ : List Int, y_ = (x5_1 ++ [t819]) := ⟨_, rfl⟩
          replace H : (spec_l08DrawSymbols.l0 kj6 l1 y823 (wrap64 (x6_1 - 1)) s0_0 t820 t821) = some (r1, r2, r3) := by first | (rw [hy823]; with_reducible exact H) | (have H2_ := (Option.bind_some _ _).symm.trans H; rw [hy823]; with_reducible exact H2_) | (have H2_ := (Option.bind_some _ _).symm.trans H; with_reducible exact H2_) | with_reducible exact H | (rw [hy823]; exact H) | exact H
          have Ny823 := Aside0.mk hy823
          clear hy823
          have H' := Aside0.mk H
          clear H
          go_wp2_with (first | ((with_reducible refine gate_callee (f := 85) rfl ?_); refine goesL_ (some 23) rfl rfl Try.func85 (by kernel_rfl) rfl #[.pointer (some ⟨g, 0, none⟩), .int .i64 (l1.length : Int)] rfl (by (try simp only [List.map_toArray, List.map_cons, List.map_nil]); first | done | rfl | (simp only [List.length_drop, List.length_take]; rfl)) ?_; (with_reducible refine (spec_l01Cur_pick.calls g s0_0 x1001_1 x1002_1 (l1.length : Int) t819 t820 t821 w0 _ ?side1 ?side2 A10.out).mono ?_); (case side1 => repeat (first | (with_reducible first | exact HI0.out | apply IsS150.alloc | apply IsS150.drewN | apply IsS150.drew | apply IsS150.set_1 | apply IsS150.set_2) | exact HI0.out)); (case side2 => repeat (first | (with_reducible first | exact HB.out | apply below_alloc | apply pw_below_drewN | apply below_drew1 | refine below_set ?_ (IsS150.ge HI0.out)) | exact HB.out)); rintro e w15 ⟨rfl, hi, hb, hk⟩; refine ⟨_, rfl, ?_⟩; have n0_ := Aside0.mk (Kd.R_mono (Kd.R_keep (IsS150.apart (show IsS150 w0 _ g s0_0 x1001_1 x1002_1 from by repeat (first | (with_reducible first | exact HI0.out | apply IsS150.alloc | apply IsS150.drewN | apply IsS150.drew | apply IsS150.set_1 | apply IsS150.set_2) | exact HI0.out)) (by (with_reducible repeat (first | apply Kd.R_alloc | apply Kd.R_drewN | apply Kd.R_drew)); exact HO_5.out) (by decide)) hk (fun _ h => h.2)) (fun _ h => h.1)); have n1_ := Aside0.mk (KeepBut.trans (by repeat (first | (with_reducible first | exact HK.out | apply KeepBut.set_ | apply keep_drewN | apply keep_drew | apply keep_alloc) | exact HK.out)) hk (.inl rfl)); have n2_ := Aside0.mk (hb); have n3_ := Aside0.mk (hi); clear HO_5; clear HK; clear HB; clear HI0; have HO_5 := n0_; have HK := n1_; have HB := n2_; have HI0 := n3_; clear n0_ n1_ n2_ n3_; (try clear hb); (try clear hb2); (try clear hk); (try clear hi); have p822 : 0 ≤ (t819 : Int) := of_decide_eq_true (by first | (with_reducible assumption) | assumption); have q822 : t819 < (l1.length : Int) := of_decide_eq_true (by first | (with_reducible assumption) | assumption); obtain ⟨ad822, e822, hx822_0⟩ := Kd.at_int HR1.out t819 p822 q822; cases e822; replace hx822_0 := keep_cell HK.out hx822_0 (by first | (rw [add_block]; exact hf1 _ rfl (by omega)) | exact hf1 _ rfl (by omega) | exact hf1 ad822 rfl (by omega)); replace p822 := eq_true p822; replace q822 := eq_true q822) | ((with_reducible refine gate_builtin (b := .append) (xs := #[.tmp 29, .tmp 31]) rfl ?_); (try (refine gate_guard (by rfl) ?_; dsimp only)); at_builtin; refine Kd.R_append (Kd.int .i64) w.heap.size rfl (.tmp 29) (.tmp 31) 22 3 (.int .i64 0) 8 rfl Try.underlying22 info3 rfl (by decide) (by omega) u5 x5_1 t819 [.int .i64 t819] (fun _ => True) (fun _ => False) rfl rfl ?aP (fun _ hk => hk.elim) ?aF ?aO (Below.refl _ _) ?aS ?aL ?_; (case aP => exact rfl); (case aF => exact (fun _ _ => trivial)); (case aO => exact (by (with_reducible repeat (first | apply Kd.R_alloc | apply Kd.R_drewN | apply Kd.R_drew)); exact HO_5.out)); (case aS => exact (keep_size (w := w) (g := g) (row := none) (by repeat (first | (with_reducible first | exact HK.out | apply KeepBut.set_ | apply keep_drewN | apply keep_drew | apply keep_alloc) | exact HK.out)))); (case aL => have := LMc14.out; omega); intro v824 w16 ho hb hg hat; rw [← Ny823.out] at ho; have n0_ := Aside0.mk (IsS150.grown (by repeat (first | (with_reducible first | exact HI0.out | apply IsS150.alloc | apply IsS150.drewN | apply IsS150.drew | apply IsS150.set_1 | apply IsS150.set_2) | exact HI0.out)) hg (IsS150.own_ne HI0.out HO_5.out (by decide))); have n1_ := Aside0.mk (below_weaken (by repeat (first | (with_reducible first | exact HB.out | apply below_alloc | apply pw_below_drewN | apply below_drew1 | refine below_set ?_ (IsS150.ge HI0.out)) | exact HB.out)) HL.out hb); have n2_ := Aside0.mk (KeepBut.trans (by repeat (first | (with_reducible first | exact HK.out | apply KeepBut.set_ | apply keep_drewN | apply keep_drew | apply keep_alloc) | exact HK.out)) (KeepBut.of_grown hg g) (Kd.R_base2 HO_5.out)); have n3_ := Aside0.mk (ho); clear HI0; clear HB; clear HK; clear HO_5; have HI0 := n0_; have HB := n1_; have HK := n2_; have HO825 := n3_; clear n0_ n1_ n2_ n3_; clear ho hb hg hat))
          go_roundg kj6
          case measure => have := HK1.out; have := HJ6.out; omega
          case rel => exact ⟨(y823), (wrap64 (x6_1 - 1)), (t820), (t821), (by first | rfl | (simp; done) | (simp [*]; done)), H', ⟨by have := HK1.out; have := HJ6.out; omega⟩, ⟨by (with_reducible repeat (first | apply Kd.R_alloc | apply Kd.R_drewN | apply Kd.R_drew)); exact HO825.out⟩, ⟨by repeat (first | (with_reducible first | exact HI0.out | apply IsS150.alloc | apply IsS150.drewN | apply IsS150.drew | apply IsS150.set_1 | apply IsS150.set_2) | exact HI0.out)⟩, ⟨by repeat (first | (with_reducible first | exact HK.out | apply KeepBut.set_ | apply keep_drewN | apply keep_drew | apply keep_alloc) | exact HK.out)⟩, ⟨by repeat (first | (with_reducible first | exact HB.out | apply below_alloc | apply pw_below_drewN | apply below_drew1 | refine below_set ?_ (IsS150.ge HI0.out)) | exact HB.out)⟩⟩
         ·rw [if_neg c14] at H
          exact absurd H (by simp)
        ·rw [if_neg c13] at H
         have c13b0 : decide (0 < (rd l1 t819)) = false := decide_eq_false c13
         clear c13
         have H' := Aside0.mk H
         clear H
         go_wp2_with (first | ((with_reducible refine gate_callee (f := 85) rfl ?_); refine goesL_ (some 23) rfl rfl Try.func85 (by kernel_rfl) rfl #[.pointer (some ⟨g, 0, none⟩), .int .i64 (l1.length : Int)] rfl (by (try simp only [List.map_toArray, List.map_cons, List.map_nil]); first | done | rfl | (simp only [List.length_drop, List.length_take]; rfl)) ?_; (with_reducible refine (spec_l01Cur_pick.calls g s0_0 x1001_1 x1002_1 (l1.length : Int) t819 t820 t821 w0 _ ?side1 ?side2 A10.out).mono ?_); (case side1 => repeat (first | (with_reducible first | exact HI0.out | apply IsS150.alloc | apply IsS150.drewN | apply IsS150.drew | apply IsS150.set_1 | apply IsS150.set_2) | exact HI0.out)); (case side2 => repeat (first | (with_reducible first | exact HB.out | apply below_alloc | apply pw_below_drewN | apply below_drew1 | refine below_set ?_ (IsS150.ge HI0.out)) | exact HB.out)); rintro e w17 ⟨rfl, hi, hb, hk⟩; refine ⟨_, rfl, ?_⟩; have n0_ := Aside0.mk (Kd.R_mono (Kd.R_keep (IsS150.apart (show IsS150 w0 _ g s0_0 x1001_1 x1002_1 from by repeat (first | (with_reducible first | exact HI0.out | apply IsS150.alloc | apply IsS150.drewN | apply IsS150.drew | apply IsS150.set_1 | apply IsS150.set_2) | exact HI0.out)) (by (with_reducible repeat (first | apply Kd.R_alloc | apply Kd.R_drewN | apply Kd.R_drew)); exact HO_5.out) (by decide)) hk (fun _ h => h.2)) (fun _ h => h.1)); have n1_ := Aside0.mk (KeepBut.trans (by repeat (first | (with_reducible first | exact HK.out | apply KeepBut.set_ | apply keep_drewN | apply keep_drew | apply keep_alloc) | exact HK.out)) hk (.inl rfl)); have n2_ := Aside0.mk (hb); have n3_ := Aside0.mk (hi); clear HO_5; clear HK; clear HB; clear HI0; have HO_5 := n0_; have HK := n1_; have HB := n2_; have HI0 := n3_; clear n0_ n1_ n2_ n3_; (try clear hb); (try clear hb2); (try clear hk); (try clear hi); have p822 : 0 ≤ (t819 : Int) := of_decide_eq_true (by first | (with_reducible assumption) | assumption); have q822 : t819 < (l1.length : Int) := of_decide_eq_true (by first | (with_reducible assumption) | assumption); obtain ⟨ad822, e822, hx822_0⟩ := Kd.at_int HR1.out t819 p822 q822; cases e822; replace hx822_0 := keep_cell HK.out hx822_0 (by first | (rw [add_block]; exact hf1 _ rfl (by omega)) | exact hf1 _ rfl (by omega) | exact hf1 ad822 rfl (by omega)); replace p822 := eq_true p822; replace q822 := eq_true q822))
         go_roundg kj6
         case measure => have := HK1.out; have := HJ6.out; omega
         case rel => exact ⟨(x5_1), (wrap64 (x6_1 - 1)), (t820), (t821), (by first | rfl | (simp; done) | (simp [*]; done)), H', ⟨by have := HK1.out; have := HJ6.out; omega⟩, ⟨by (with_reducible repeat (first | apply Kd.R_alloc | apply Kd.R_drewN | apply Kd.R_drew)); exact HO_5.out⟩, ⟨by repeat (first | (with_reducible first | exact HI0.out | apply IsS150.alloc | apply IsS150.drewN | apply IsS150.drew | apply IsS150.set_1 | apply IsS150.set_2) | exact HI0.out)⟩, ⟨by repeat (first | (with_reducible first | exact HK.out | apply KeepBut.set_ | apply keep_drewN | apply keep_drew | apply keep_alloc) | exact HK.out)⟩, ⟨by repeat (first | (with_reducible first | exact HB.out | apply below_alloc | apply pw_below_drewN | apply below_drew1 | refine below_set ?_ (IsS150.ge HI0.out)) | exact HB.out)⟩⟩
       ·rw [if_neg c12] at H
        exact absurd H (by simp)
      ·rw [if_neg c11] at H
       exact absurd H (by simp)
     ·replace c9 := Bool.eq_false_iff.mpr c9
      subst c9
      have H1 : (some (x5_1, x1001_1, x1002_1)) = some (r1, r2, r3) := by rw [if_neg (show ¬ (false = true) by decide)] at H; exact H
      clear H
      have H := H1
      clear H1
      simp only [Option.some.injEq, Prod.mk.injEq] at H
      obtain ⟨rfl, rfl, rfl⟩ := H
      go_wp2
      go_ret
      exact ⟨_, by first | rfl | (simp [errW_none, errW_some] <;> rfl) | (simp [*, errW_none, errW_some] <;> rfl), by (with_reducible repeat (first | apply Kd.R_alloc | apply Kd.R_drewN | apply Kd.R_drew)); exact HO_5.out, by repeat (first | (with_reducible first | exact HI0.out | apply IsS150.alloc | apply IsS150.drewN | apply IsS150.drew | apply IsS150.set_1 | apply IsS150.set_2) | exact HI0.out), by repeat (first | (with_reducible first | exact HB.out | apply below_alloc | apply pw_below_drewN | apply below_drew1 | refine below_set ?_ (IsS150.ge HI0.out)) | exact HB.out), by repeat (first | (with_reducible first | exact HK.out | apply KeepBut.set_ | apply keep_drewN | apply keep_drew | apply keep_alloc) | exact HK.out)⟩
def syP (c : List Int) (m n : Nat) (r : List Int × Int × Int) : Prop := CurAt c m r.2.1 r.2.2 ∧ r.1.length ≤ n
theorem spec_l08DrawSymbols.l0_ev (c lens : List Int) : ∀ (n m : Nat) (a s : Int) (x : List Int), CurAt c m a s → m + 2 * n ≤ 800000000 → x.length + n ≤ 1000000 → EvP (fun k => spec_l08DrawSymbols.l0 k lens x (n : Int) c a s) (syP c (m + 2 * n) (x.length + n)) := by
 have hend : ∀ (m q : Nat) (a s : Int) (x : List Int) (b : Int), CurAt c m a s → x.length ≤ q → EvP (fun k => spec_l08DrawSymbols.j1 k lens x b false c a s) (syP c m q) := fun m q a s x b hc hq => EvP.step (fun _ => by rw [spec_l08DrawSymbols.j1]) (EvP.ng (by simp) (EvP.now ⟨hc, hq⟩))
 intro n
 induction n with
 | zero =>
  intro m a s x hc hm hx
  exact EvP.step (fun _ => by rw [spec_l08DrawSymbols.l0]) (EvP.ng (by omega) (hend m _ a s x _ hc (by omega)))
 | succ n ih =>
  intro m a s x hc hm hx
  refine EvP.step (fun _ => by rw [spec_l08DrawSymbols.l0]) (EvP.ip (by omega) ?_)
  by_cases hl : (lens.length : Int) > 0
  ·rw [show decide ((lens.length : Int) > 0) = true from decide_eq_true hl]
   refine EvP.step (fun _ => by rw [spec_l08DrawSymbols.j1]) (EvP.ip rfl ?_)
   refine hc.pick (by omega) _ (fun p a1 s1 p0 p1 hc1 => ?_)
   have e : wrap64 (((n + 1 : Nat) : Int) - 1) = (n : Int) := by rw [wrap_in _ (by omega) (by omega)]; omega
   refine EvP.ip p0 (EvP.ip (show p < lens.length by omega) ?_)
   rw [e]
   refine EvP.either (fun _ => EvP.ip (by omega) ?_) (fun _ => ?_)
   ·exact (ih (m + 2) a1 s1 _ hc1 (by omega) (by simp; omega)).mono (fun r hr => ⟨hr.1.up (by omega), by have := hr.2; simp at this; omega⟩)
   ·exact (ih (m + 2) a1 s1 x hc1 (by omega) (by omega)).mono (fun r hr => ⟨hr.1.up (by omega), by have := hr.2; omega⟩)
  ·rw [show decide ((lens.length : Int) > 0) = false from decide_eq_false hl]
   exact hend _ _ a s x _ (hc.up (by omega)) (by omega)
theorem spec_l08DrawSymbols.ev (c lens : List Int) (m : Nat) (a s : Int) (hc : CurAt c m a s) (hm : m ≤ 700000000) : EvP (fun k => spec_l08DrawSymbols.f k c a s lens) (syP c (m + 100) 30) := by
 unfold spec_l08DrawSymbols.f
 refine hc.size (by omega) 30 (by omega) (by omega) (fun v a1 s1 v0 v1 hc1 => ?_)
 obtain ⟨n, rfl⟩ : ∃ n : Nat, v = n := ⟨v.toNat, by omega⟩
 show EvP (fun k => spec_l08DrawSymbols.l0 k lens [] (n : Int) c a1 s1) _
 exact (spec_l08DrawSymbols.l0_ev c lens n (m + 2) a1 s1 [] hc1 (by omega) (by simp; omega)).mono (fun r hr => ⟨hr.1.up (by omega), by have := hr.2; simp at this; omega⟩)
end Go.Proofs.Ytcjjmfpkhhdmlaa.G


namespace Go.Proofs.Ytcjjmfpkhhdmlaa.G
open Go.RowKit Go.Proofs.YtcjjmfpkhhdmlaaW.PrintWords Go.Proofs.YtcjjmfpkhhdmlaaW.PrintLast Go.Proofs.YtcjjmfpkhhdmlaaW.PrintMore
attribute [local go_sem] max2_int min2_int max_two min_two max_three min_three max_four min_four   -- for this text's walks alone
def spec_DrawCodeText.f (k : Nat) (l0 : List Int) : Option (List Int × List Int) := (spec_l01Open.f l0).bind fun bt826 => ((spec_l08DrawLens.f k bt826.1 bt826.2.1 bt826.2.2).bind fun bt830 => ((spec_l08DrawSymbols.f k bt826.1 bt830.2.1 bt830.2.2 bt830.1).bind fun bt835 => ((spec_l01Cur_once.f bt826.1 bt835.2.1 bt835.2.2 12).bind fun bt840 => (if bt840.1 = true then ((spec_l01Cur_odd.f bt826.1 bt840.2.1 bt840.2.2).bind fun bt843 => (if bt835.1.length < 17592186044416 then (some (bt830.1, (bt835.1 ++ [bt843.1]))) else (none))) else (some (bt830.1, bt835.1))))))
set_option maxHeartbeats 8000000 in
set_option maxRecDepth 100000 in
theorem spec_DrawCodeText.calls (k : Nat) (A0 : Option Addr) (c0 : Nat) (l0 : List Int) (r1 : List Int) (r2 : List Int) (w : World) (hr0 : Kd.C (Kd.int .u8) w A0 l0.length l0) (hc0 : l0.length ≤ c0) (h : spec_DrawCodeText.f k l0 = some (r1, r2)) :
  Calls Try.prog 47 #[.slice A0 l0.length c0] w fun e w' => ∃ v0_ v1_ : Value, e = .returned (.tuple #[v0_, v1_]) ∧ Kd.R (Kd.int .i64) 3 w' w.heap.size (fun k_ => some k_ ≠ (v1_ : Value).ownBlock) v0_ r1 ∧ Kd.R (Kd.int .i64) 3 w' w.heap.size (fun k_ => some k_ ≠ (v0_ : Value).ownBlock) v1_ r2 ∧ Below w.heap.size w w' := by
 have HR0 := Aside0.mk hr0
 have HC0 := Aside0.mk hc0
 clear hr0 hc0
 have HB := Aside0.mk (Below.refl w.heap.size w)
 have H : ((spec_l01Open.f l0).bind fun bt826 => ((spec_l08DrawLens.f k bt826.1 bt826.2.1 bt826.2.2).bind fun bt830 => ((spec_l08DrawSymbols.f k bt826.1 bt830.2.1 bt830.2.2 bt830.1).bind fun bt835 => ((spec_l01Cur_once.f bt826.1 bt835.2.1 bt835.2.2 12).bind fun bt840 => (if bt840.1 = true then ((spec_l01Cur_odd.f bt826.1 bt840.2.1 bt840.2.2).bind fun bt843 => (if bt835.1.length < 17592186044416 then (some (bt830.1, (bt835.1 ++ [bt843.1]))) else (none))) else (some (bt830.1, bt835.1))))))) = some (r1, r2) := h
 clear h
 replace H := Option.bind_eq_some_iff.mp H
 obtain ⟨⟨t826, t827, t828⟩, A20, H⟩ := H
 replace H : ((spec_l08DrawLens.f k t826 t827 t828).bind fun bt830 => ((spec_l08DrawSymbols.f k t826 bt830.2.1 bt830.2.2 bt830.1).bind fun bt835 => ((spec_l01Cur_once.f t826 bt835.2.1 bt835.2.2 12).bind fun bt840 => (if bt840.1 = true then ((spec_l01Cur_odd.f t826 bt840.2.1 bt840.2.2).bind fun bt843 => (if bt835.1.length < 17592186044416 then (some (bt830.1, (bt835.1 ++ [bt843.1]))) else (none))) else (some (bt830.1, bt835.1)))))) = some (r1, r2) := H
 have A2 := Aside0.mk A20
 clear A20
 replace H := Option.bind_eq_some_iff.mp H
 obtain ⟨⟨t830, t833, t834⟩, A30, H⟩ := H
 replace H : ((spec_l08DrawSymbols.f k t826 t833 t834 t830).bind fun bt835 => ((spec_l01Cur_once.f t826 bt835.2.1 bt835.2.2 12).bind fun bt840 => (if bt840.1 = true then ((spec_l01Cur_odd.f t826 bt840.2.1 bt840.2.2).bind fun bt843 => (if bt835.1.length < 17592186044416 then (some (t830, (bt835.1 ++ [bt843.1]))) else (none))) else (some (t830, bt835.1))))) = some (r1, r2) := H
 have A3 := Aside0.mk A30
 clear A30
 replace H := Option.bind_eq_some_iff.mp H
 obtain ⟨⟨t835, t838, t839⟩, A40, H⟩ := H
 replace H : ((spec_l01Cur_once.f t826 t838 t839 12).bind fun bt840 => (if bt840.1 = true then ((spec_l01Cur_odd.f t826 bt840.2.1 bt840.2.2).bind fun bt843 => (if t835.length < 17592186044416 then (some (t830, (t835 ++ [bt843.1]))) else (none))) else (some (t830, t835)))) = some (r1, r2) := H
 have A4 := Aside0.mk A40
 clear A40
 replace H := Option.bind_eq_some_iff.mp H
 obtain ⟨⟨t840, t841, t842⟩, A50, H⟩ := H
 replace H : (if t840 = true then ((spec_l01Cur_odd.f t826 t841 t842).bind fun bt843 => (if t835.length < 17592186044416 then (some (t830, (t835 ++ [bt843.1]))) else (none))) else (some (t830, t835))) = some (r1, r2) := H
 have A5 := Aside0.mk A50
 clear A50
 by_cases c6 : t840 = true
 ·subst c6
  have H1 : ((spec_l01Cur_odd.f t826 t841 t842).bind fun bt843 => (if t835.length < 17592186044416 then (some (t830, (t835 ++ [bt843.1]))) else (none))) = some (r1, r2) := by rw [if_pos rfl] at H; exact H
  clear H
  have H := H1
  clear H1
  replace H := Option.bind_eq_some_iff.mp H
  obtain ⟨⟨t843, t844, t845⟩, A70, H⟩ := H
  replace H : (if t835.length < 17592186044416 then (some (t830, (t835 ++ [t843]))) else (none)) = some (r1, r2) := H
  have A7 := Aside0.mk A70
  clear A70
  by_cases c8 : t835.length < 17592186044416
  ·rw [if_pos c8] at H
   have LMc8 := Aside0.mk c8
   clear c8
   obtain ⟨y846, hy846⟩ : ∃ y_ : List Int, y_ = (t835 ++ [t843]) := ⟨_, rfl⟩
   replace H : (some (t830, y846)) = some (r1, r2) := by first | (rw [hy846]; with_reducible exact H) | (have H2_ := (Option.bind_some _ _).symm.trans H; rw [hy846]; with_reducible exact H2_) | (have H2_ := (Option.bind_some _ _).symm.trans H; with_reducible exact H2_) | with_reducible exact H | (rw [hy846]; exact H) | exact H
   have Ny846 := Aside0.mk hy846
   clear hy846
   simp only [Option.some.injEq, Prod.mk.injEq] at H
   obtain ⟨rfl, rfl⟩ := H
   go_enter Try.func47, Try.ntmps47
   go_wp2_with (first | ((with_reducible refine gate_callee (f := 84) rfl ?_); refine goesL_ (some 8) rfl rfl Try.func84 (by kernel_rfl) rfl #[.slice A0 l0.length c0] rfl (by (try simp only [List.map_toArray, List.map_cons, List.map_nil]); first | done | rfl | (simp only [List.length_drop, List.length_take]; rfl)) ?_; (with_reducible refine (spec_l01Open.calls _ _ l0 t826 t827 t828 w _ ?side1 ?side2 ?side3 A2.out).mono ?_); (case side1 => repeat (first | (with_reducible first | exact HB.out | apply below_alloc | apply pw_below_drewN | apply below_drew1) | exact HB.out)); (case side2 => exact HR0.out); (case side3 => exact HC0.out); rintro e w9 ⟨g829, rfl, hi, hb, hb2⟩; refine ⟨_, rfl, ?_⟩; have n0_ := Aside0.mk (hb); have n1_ := Aside0.mk (hi); clear HB; have HB := n0_; have HI829 := n1_; clear n0_ n1_; (try clear hb); (try clear hb2); (try clear hk); (try clear hi)) | ((with_reducible refine gate_callee (f := 118) rfl ?_); refine goesL_ (some 10) rfl rfl Try.func118 (by kernel_rfl) rfl #[.pointer (some ⟨g829, 0, none⟩)] rfl (by (try simp only [List.map_toArray, List.map_cons, List.map_nil]); first | done | rfl | (simp only [List.length_drop, List.length_take]; rfl)) ?_; (with_reducible refine (spec_l08DrawLens.calls k g829 t826 t827 t828 t830 t833 t834 w _ ?side1 ?side2 A3.out).mono ?_); (case side1 => repeat (first | (with_reducible first | exact HI829.out | apply IsS150.alloc | apply IsS150.drewN | apply IsS150.drew | apply IsS150.set_1 | apply IsS150.set_2) | exact HI829.out)); (case side2 => repeat (first | (with_reducible first | exact HB.out | apply below_alloc | apply pw_below_drewN | apply below_drew1 | refine below_set ?_ (IsS150.ge HI829.out)) | exact HB.out)); rintro e w10 ⟨v831, rfl, ho0, hi, hb, hk⟩; refine ⟨_, rfl, ?_⟩; have n0_ := Aside0.mk (Kd.R_lower ho0 (below_size (by repeat (first | (with_reducible first | exact HB.out | apply below_alloc | apply pw_below_drewN | apply below_drew1 | refine below_set ?_ (IsS150.ge HI829.out)) | exact HB.out)))); have n1_ := Aside0.mk (hb); have n2_ := Aside0.mk (hi); clear HB; clear HI829; have HO832 := n0_; have HB := n1_; have HI829 := n2_; clear n0_ n1_ n2_; (try clear hb); (try clear hb2); (try clear hk); (try clear hi); (try clear ho0); obtain ⟨Ao11, co11, eo11⟩ := Kd.R_slice HO832.out; subst eo11) | ((with_reducible refine gate_callee (f := 119) rfl ?_); refine goesL_ (some 13) rfl rfl Try.func119 (by kernel_rfl) rfl #[.pointer (some ⟨g829, 0, none⟩), .slice Ao11 t830.length co11] rfl (by (try simp only [List.map_toArray, List.map_cons, List.map_nil]); first | done | rfl | (simp only [List.length_drop, List.length_take]; rfl)) ?_; (with_reducible refine (spec_l08DrawSymbols.calls k g829 t826 t833 t834 _ _ t830 t835 t838 t839 w _ ?side1 ?side2 ?side3 ?side4 ?side5 A4.out).mono ?_); (case side1 => repeat (first | (with_reducible first | exact HI829.out | apply IsS150.alloc | apply IsS150.drewN | apply IsS150.drew | apply IsS150.set_1 | apply IsS150.set_2) | exact HI829.out)); (case side2 => repeat (first | (with_reducible first | exact HB.out | apply below_alloc | apply pw_below_drewN | apply below_drew1 | refine below_set ?_ (IsS150.ge HI829.out)) | exact HB.out)); (case side3 => repeat (first | exact (Kd.R_reads' HO832.out).2.2 | (with_reducible refine Kd.C_alloc ?_ _) | (with_reducible refine Kd.C_drewN ?_ _) | (with_reducible refine Kd.C_drew ?_))); (case side4 => exact (Kd.R_reads' HO832.out).2.1); (case side5 => exact far_slice (IsS150.own_ne HI829.out HO832.out (by decide))); rintro e w12 ⟨v836, rfl, ho0, hi, hb, hk⟩; refine ⟨_, rfl, ?_⟩; have n0_ := Aside0.mk (Kd.R_mono (Kd.R_told (Kd.R_oldK (IsS150.apart (show IsS150 w _ g829 t826 t833 t834 from by repeat (first | (with_reducible first | exact HI829.out | apply IsS150.alloc | apply IsS150.drewN | apply IsS150.drew | apply IsS150.set_1 | apply IsS150.set_2) | exact HI829.out)) (by (with_reducible repeat (first | apply Kd.R_alloc | apply Kd.R_drewN | apply Kd.R_drew)); exact HO832.out) (by decide)) hk) (Kd.R_base ho0)) (fun _ h_ => h_.1)); have n1_ := Aside0.mk (Kd.R_lower (Kd.R_new' ho0 (Kd.R_lt (by (with_reducible repeat (first | apply Kd.R_alloc | apply Kd.R_drewN | apply Kd.R_drew)); exact HO832.out))) (below_size (by repeat (first | (with_reducible first | exact HB.out | apply below_alloc | apply pw_below_drewN | apply below_drew1 | refine below_set ?_ (IsS150.ge HI829.out)) | exact HB.out)))); have n2_ := Aside0.mk (hb); have n3_ := Aside0.mk (hi); clear HO832; clear HB; clear HI829; have HO832 := n0_; have HO837 := n1_; have HB := n2_; have HI829 := n3_; clear n0_ n1_ n2_ n3_; (try clear hb); (try clear hb2); (try clear hk); (try clear hi); (try clear ho0)) | ((with_reducible refine gate_callee (f := 87) rfl ?_); refine goesL_ (some 15) rfl rfl Try.func87 (by kernel_rfl) rfl #[.pointer (some ⟨g829, 0, none⟩), .int .i64 12] rfl (by (try simp only [List.map_toArray, List.map_cons, List.map_nil]); first | done | rfl | (simp only [List.length_drop, List.length_take]; rfl)) ?_; (with_reducible refine (spec_l01Cur_once.calls g829 t826 t838 t839 12 true t841 t842 w _ ?side1 ?side2 A5.out).mono ?_); (case side1 => repeat (first | (with_reducible first | exact HI829.out | apply IsS150.alloc | apply IsS150.drewN | apply IsS150.drew | apply IsS150.set_1 | apply IsS150.set_2) | exact HI829.out)); (case side2 => repeat (first | (with_reducible first | exact HB.out | apply below_alloc | apply pw_below_drewN | apply below_drew1 | refine below_set ?_ (IsS150.ge HI829.out)) | exact HB.out)); rintro e w13 ⟨rfl, hi, hb, hk⟩; refine ⟨_, rfl, ?_⟩; have n0_ := Aside0.mk (Kd.R_mono (Kd.R_keep (IsS150.apart (show IsS150 w _ g829 t826 t838 t839 from by repeat (first | (with_reducible first | exact HI829.out | apply IsS150.alloc | apply IsS150.drewN | apply IsS150.drew | apply IsS150.set_1 | apply IsS150.set_2) | exact HI829.out)) (by (with_reducible repeat (first | apply Kd.R_alloc | apply Kd.R_drewN | apply Kd.R_drew)); exact HO832.out) (by decide)) hk (fun _ h => h.2)) (fun _ h => h.1)); have n1_ := Aside0.mk (Kd.R_mono (Kd.R_keep (IsS150.apart (show IsS150 w _ g829 t826 t838 t839 from by repeat (first | (with_reducible first | exact HI829.out | apply IsS150.alloc | apply IsS150.drewN | apply IsS150.drew | apply IsS150.set_1 | apply IsS150.set_2) | exact HI829.out)) (by (with_reducible repeat (first | apply Kd.R_alloc | apply Kd.R_drewN | apply Kd.R_drew)); exact HO837.out) (by decide)) hk (fun _ h => h.2)) (fun _ h => h.1)); have n2_ := Aside0.mk (hb); have n3_ := Aside0.mk (hi); clear HO832; clear HO837; clear HB; clear HI829; have HO832 := n0_; have HO837 := n1_; have HB := n2_; have HI829 := n3_; clear n0_ n1_ n2_ n3_; (try clear hb); (try clear hb2); (try clear hk); (try clear hi)) | ((with_reducible refine gate_callee (f := 114) rfl ?_); refine goesL_ (some 18) rfl rfl Try.func114 (by kernel_rfl) rfl #[.pointer (some ⟨g829, 0, none⟩)] rfl (by (try simp only [List.map_toArray, List.map_cons, List.map_nil]); first | done | rfl | (simp only [List.length_drop, List.length_take]; rfl)) ?_; (with_reducible refine (spec_l01Cur_odd.calls g829 t826 t841 t842 t843 t844 t845 w _ ?side1 ?side2 A7.out).mono ?_); (case side1 => repeat (first | (with_reducible first | exact HI829.out | apply IsS150.alloc | apply IsS150.drewN | apply IsS150.drew | apply IsS150.set_1 | apply IsS150.set_2) | exact HI829.out)); (case side2 => repeat (first | (with_reducible first | exact HB.out | apply below_alloc | apply pw_below_drewN | apply below_drew1 | refine below_set ?_ (IsS150.ge HI829.out)) | exact HB.out)); rintro e w14 ⟨rfl, hi, hb, hk⟩; refine ⟨_, rfl, ?_⟩; have n0_ := Aside0.mk (Kd.R_mono (Kd.R_keep (IsS150.apart (show IsS150 w _ g829 t826 t841 t842 from by repeat (first | (with_reducible first | exact HI829.out | apply IsS150.alloc | apply IsS150.drewN | apply IsS150.drew | apply IsS150.set_1 | apply IsS150.set_2) | exact HI829.out)) (by (with_reducible repeat (first | apply Kd.R_alloc | apply Kd.R_drewN | apply Kd.R_drew)); exact HO832.out) (by decide)) hk (fun _ h => h.2)) (fun _ h => h.1)); have n1_ := Aside0.mk (Kd.R_mono (Kd.R_keep (IsS150.apart (show IsS150 w _ g829 t826 t841 t842 from by repeat (first | (with_reducible first | exact HI829.out | apply IsS150.alloc | apply IsS150.drewN | apply IsS150.drew | apply IsS150.set_1 | apply IsS150.set_2) | exact HI829.out)) (by (with_reducible repeat (first | apply Kd.R_alloc | apply Kd.R_drewN | apply Kd.R_drew)); exact HO837.out) (by decide)) hk (fun _ h => h.2)) (fun _ h => h.1)); have n2_ := Aside0.mk (hb); have n3_ := Aside0.mk (hi); clear HO832; clear HO837; clear HB; clear HI829; have HO832 := n0_; have HO837 := n1_; have HB := n2_; have HI829 := n3_; clear n0_ n1_ n2_ n3_; (try clear hb); (try clear hb2); (try clear hk); (try clear hi)) | ((with_reducible refine gate_builtin (b := .append) (xs := #[.tmp 16, .tmp 19]) rfl ?_); at_builtin; refine Kd.R_append (Kd.int .i64) (w0 := w) w.heap.size rfl (.tmp 16) (.tmp 19) 22 3 (.int .i64 0) 8 rfl Try.underlying22 info3 rfl (by decide) (by omega) v836 t835 t843 [.int .i64 t843] (fun k_ => some k_ ≠ (.slice Ao11 t830.length co11 : Value).ownBlock) (fun _ => False) rfl rfl ?aP (fun _ hk => hk.elim) ?aF ?aO ?aB ?aS ?aL ?_; (case aP => exact rfl); (case aB => exact (by repeat (first | (with_reducible first | exact HB.out | apply below_alloc | apply pw_below_drewN | apply below_drew1 | refine below_set ?_ (IsS150.ge HI829.out)) | exact HB.out))); (case aF => exact (fun k_ hk => Kd.fresh' (Kd.R_lt (by (with_reducible repeat (first | apply Kd.R_alloc | apply Kd.R_drewN | apply Kd.R_drew)); exact HO832.out)) k_ hk)); (case aO => exact (by (with_reducible repeat (first | apply Kd.R_alloc | apply Kd.R_drewN | apply Kd.R_drew)); exact Kd.R_mono HO837.out (fun _ hk => hk.2))); (case aS => exact (below_size (by repeat (first | (with_reducible first | exact HB.out | apply below_alloc | apply pw_below_drewN | apply below_drew1 | refine below_set ?_ (IsS150.ge HI829.out)) | exact HB.out)))); (case aL => have := LMc8.out; omega); intro v847 w15 ho hb hg hat; rw [← Ny846.out] at ho; have n0_ := Aside0.mk (IsS150.grown (by repeat (first | (with_reducible first | exact HI829.out | apply IsS150.alloc | apply IsS150.drewN | apply IsS150.drew | apply IsS150.set_1 | apply IsS150.set_2) | exact HI829.out)) hg (IsS150.own_ne HI829.out HO837.out (by decide))); have n1_ := Aside0.mk (Kd.R_after (ok := (fun _ => True)) (by (with_reducible repeat (first | apply Kd.R_alloc | apply Kd.R_drewN | apply Kd.R_drew)); exact HO832.out) hg hat); have n2_ := Aside0.mk (hb); have n3_ := Aside0.mk (ho); clear HI829; clear HO832; clear HB; clear HO837; have HI829 := n0_; have HO832 := n1_; have HB := n2_; have HO848 := n3_; clear n0_ n1_ n2_ n3_; clear ho hb hg hat))
   go_ret2
   exact ⟨_, _, by first | rfl | (simp [errW_none, errW_some] <;> rfl) | (simp [*, errW_none, errW_some] <;> rfl), by (with_reducible repeat (first | apply Kd.R_alloc | apply Kd.R_drewN | apply Kd.R_drew)); exact Kd.R_mono HO832.out (fun _ hk => hk.2), by (with_reducible repeat (first | apply Kd.R_alloc | apply Kd.R_drewN | apply Kd.R_drew)); exact HO848.out, by repeat (first | (with_reducible first | exact HB.out | apply below_alloc | apply pw_below_drewN | apply below_drew1 | refine below_set ?_ (IsS150.ge HI829.out)) | exact HB.out)⟩
  ·rw [if_neg c8] at H
   exact absurd H (by simp)
 ·replace c6 := Bool.eq_false_iff.mpr c6
  subst c6
  have H1 : (some (t830, t835)) = some (r1, r2) := by rw [if_neg (show ¬ (false = true) by decide)] at H; exact H
  clear H
  have H := H1
  clear H1
  simp only [Option.some.injEq, Prod.mk.injEq] at H
  obtain ⟨rfl, rfl⟩ := H
  go_enter Try.func47, Try.ntmps47
  go_wp2_with (first | ((with_reducible refine gate_callee (f := 84) rfl ?_); refine goesL_ (some 8) rfl rfl Try.func84 (by kernel_rfl) rfl #[.slice A0 l0.length c0] rfl (by (try simp only [List.map_toArray, List.map_cons, List.map_nil]); first | done | rfl | (simp only [List.length_drop, List.length_take]; rfl)) ?_; (with_reducible refine (spec_l01Open.calls _ _ l0 t826 t827 t828 w _ ?side1 ?side2 ?side3 A2.out).mono ?_); (case side1 => repeat (first | (with_reducible first | exact HB.out | apply below_alloc | apply pw_below_drewN | apply below_drew1) | exact HB.out)); (case side2 => exact HR0.out); (case side3 => exact HC0.out); rintro e w16 ⟨g829, rfl, hi, hb, hb2⟩; refine ⟨_, rfl, ?_⟩; have n0_ := Aside0.mk (hb); have n1_ := Aside0.mk (hi); clear HB; have HB := n0_; have HI829 := n1_; clear n0_ n1_; (try clear hb); (try clear hb2); (try clear hk); (try clear hi)) | ((with_reducible refine gate_callee (f := 118) rfl ?_); refine goesL_ (some 10) rfl rfl Try.func118 (by kernel_rfl) rfl #[.pointer (some ⟨g829, 0, none⟩)] rfl (by (try simp only [List.map_toArray, List.map_cons, List.map_nil]); first | done | rfl | (simp only [List.length_drop, List.length_take]; rfl)) ?_; (with_reducible refine (spec_l08DrawLens.calls k g829 t826 t827 t828 t830 t833 t834 w _ ?side1 ?side2 A3.out).mono ?_); (case side1 => repeat (first | (with_reducible first | exact HI829.out | apply IsS150.alloc | apply IsS150.drewN | apply IsS150.drew | apply IsS150.set_1 | apply IsS150.set_2) | exact HI829.out)); (case side2 => repeat (first | (with_reducible first | exact HB.out | apply below_alloc | apply pw_below_drewN | apply below_drew1 | refine below_set ?_ (IsS150.ge HI829.out)) | exact HB.out)); rintro e w17 ⟨v831, rfl, ho0, hi, hb, hk⟩; refine ⟨_, rfl, ?_⟩; have n0_ := Aside0.mk (Kd.R_lower ho0 (below_size (by repeat (first | (with_reducible first | exact HB.out | apply below_alloc | apply pw_below_drewN | apply below_drew1 | refine below_set ?_ (IsS150.ge HI829.out)) | exact HB.out)))); have n1_ := Aside0.mk (hb); have n2_ := Aside0.mk (hi); clear HB; clear HI829; have HO832 := n0_; have HB := n1_; have HI829 := n2_; clear n0_ n1_ n2_; (try clear hb); (try clear hb2); (try clear hk); (try clear hi); (try clear ho0); obtain ⟨Ao18, co18, eo18⟩ := Kd.R_slice HO832.out; subst eo18) | ((with_reducible refine gate_callee (f := 119) rfl ?_); refine goesL_ (some 13) rfl rfl Try.func119 (by kernel_rfl) rfl #[.pointer (some ⟨g829, 0, none⟩), .slice Ao18 t830.length co18] rfl (by (try simp only [List.map_toArray, List.map_cons, List.map_nil]); first | done | rfl | (simp only [List.length_drop, List.length_take]; rfl)) ?_; (with_reducible refine (spec_l08DrawSymbols.calls k g829 t826 t833 t834 _ _ t830 t835 t838 t839 w _ ?side1 ?side2 ?side3 ?side4 ?side5 A4.out).mono ?_); (case side1 => repeat (first | (with_reducible first | exact HI829.out | apply IsS150.alloc | apply IsS150.drewN | apply IsS150.drew | apply IsS150.set_1 | apply IsS150.set_2) | exact HI829.out)); (case side2 => repeat (first | (with_reducible first | exact HB.out | apply below_alloc | apply pw_below_drewN | apply below_drew1 | refine below_set ?_ (IsS150.ge HI829.out)) | exact HB.out)); (case side3 => repeat (first | exact (Kd.R_reads' HO832.out).2.2 | (with_reducible refine Kd.C_alloc ?_ _) | (with_reducible refine Kd.C_drewN ?_ _) | (with_reducible refine Kd.C_drew ?_))); (case side4 => exact (Kd.R_reads' HO832.out).2.1); (case side5 => exact far_slice (IsS150.own_ne HI829.out HO832.out (by decide))); rintro e w19 ⟨v836, rfl, ho0, hi, hb, hk⟩; refine ⟨_, rfl, ?_⟩; have n0_ := Aside0.mk (Kd.R_mono (Kd.R_told (Kd.R_oldK (IsS150.apart (show IsS150 w _ g829 t826 t833 t834 from by repeat (first | (with_reducible first | exact HI829.out | apply IsS150.alloc | apply IsS150.drewN | apply IsS150.drew | apply IsS150.set_1 | apply IsS150.set_2) | exact HI829.out)) (by (with_reducible repeat (first | apply Kd.R_alloc | apply Kd.R_drewN | apply Kd.R_drew)); exact HO832.out) (by decide)) hk) (Kd.R_base ho0)) (fun _ h_ => h_.1)); have n1_ := Aside0.mk (Kd.R_lower (Kd.R_new' ho0 (Kd.R_lt (by (with_reducible repeat (first | apply Kd.R_alloc | apply Kd.R_drewN | apply Kd.R_drew)); exact HO832.out))) (below_size (by repeat (first | (with_reducible first | exact HB.out | apply below_alloc | apply pw_below_drewN | apply below_drew1 | refine below_set ?_ (IsS150.ge HI829.out)) | exact HB.out)))); have n2_ := Aside0.mk (hb); have n3_ := Aside0.mk (hi); clear HO832; clear HB; clear HI829; have HO832 := n0_; have HO837 := n1_; have HB := n2_; have HI829 := n3_; clear n0_ n1_ n2_ n3_; (try clear hb); (try clear hb2); (try clear hk); (try clear hi); (try clear ho0)) | ((with_reducible refine gate_callee (f := 87) rfl ?_); refine goesL_ (some 15) rfl rfl Try.func87 (by kernel_rfl) rfl #[.pointer (some ⟨g829, 0, none⟩), .int .i64 12] rfl (by (try simp only [List.map_toArray, List.map_cons, List.map_nil]); first | done | rfl | (simp only [List.length_drop, List.length_take]; rfl)) ?_; (with_reducible refine (spec_l01Cur_once.calls g829 t826 t838 t839 12 false t841 t842 w _ ?side1 ?side2 A5.out).mono ?_); (case side1 => repeat (first | (with_reducible first | exact HI829.out | apply IsS150.alloc | apply IsS150.drewN | apply IsS150.drew | apply IsS150.set_1 | apply IsS150.set_2) | exact HI829.out)); (case side2 => repeat (first | (with_reducible first | exact HB.out | apply below_alloc | apply pw_below_drewN | apply below_drew1 | refine below_set ?_ (IsS150.ge HI829.out)) | exact HB.out)); rintro e w20 ⟨rfl, hi, hb, hk⟩; refine ⟨_, rfl, ?_⟩; have n0_ := Aside0.mk (Kd.R_mono (Kd.R_keep (IsS150.apart (show IsS150 w _ g829 t826 t838 t839 from by repeat (first | (with_reducible first | exact HI829.out | apply IsS150.alloc | apply IsS150.drewN | apply IsS150.drew | apply IsS150.set_1 | apply IsS150.set_2) | exact HI829.out)) (by (with_reducible repeat (first | apply Kd.R_alloc | apply Kd.R_drewN | apply Kd.R_drew)); exact HO832.out) (by decide)) hk (fun _ h => h.2)) (fun _ h => h.1)); have n1_ := Aside0.mk (Kd.R_mono (Kd.R_keep (IsS150.apart (show IsS150 w _ g829 t826 t838 t839 from by repeat (first | (with_reducible first | exact HI829.out | apply IsS150.alloc | apply IsS150.drewN | apply IsS150.drew | apply IsS150.set_1 | apply IsS150.set_2) | exact HI829.out)) (by (with_reducible repeat (first | apply Kd.R_alloc | apply Kd.R_drewN | apply Kd.R_drew)); exact HO837.out) (by decide)) hk (fun _ h => h.2)) (fun _ h => h.1)); have n2_ := Aside0.mk (hb); have n3_ := Aside0.mk (hi); clear HO832; clear HO837; clear HB; clear HI829; have HO832 := n0_; have HO837 := n1_; have HB := n2_; have HI829 := n3_; clear n0_ n1_ n2_ n3_; (try clear hb); (try clear hb2); (try clear hk); (try clear hi)))
  go_ret2
  exact ⟨_, _, by first | rfl | (simp [errW_none, errW_some] <;> rfl) | (simp [*, errW_none, errW_some] <;> rfl), by (with_reducible repeat (first | apply Kd.R_alloc | apply Kd.R_drewN | apply Kd.R_drew)); exact Kd.R_mono HO832.out (fun _ hk => hk.2), by (with_reducible repeat (first | apply Kd.R_alloc | apply Kd.R_drewN | apply Kd.R_drew)); exact Kd.R_mono HO837.out (fun _ hk => hk.2), by repeat (first | (with_reducible first | exact HB.out | apply below_alloc | apply pw_below_drewN | apply below_drew1 | refine below_set ?_ (IsS150.ge HI829.out)) | exact HB.out)⟩
theorem spec_DrawCodeText.ev (l : List Int) (hb : ∀ x ∈ l, 0 ≤ x ∧ x ≤ 255) (hl : l.length ≤ 1048576) : EvP (fun k => spec_DrawCodeText.f k l) (fun r => r.1.length ≤ 300 ∧ r.2.length ≤ 31) := by
 unfold spec_DrawCodeText.f
 refine CurAt.open_ hb hl (fun s hc => ?_)
 refine EvP.bind (spec_l08DrawLens.ev l 0 0 s hc (by omega)) (fun r hr => ?_)
 obtain ⟨lens, a1, s1⟩ := r
 obtain ⟨hc1, h1⟩ := hr
 simp only [] at hc1 h1
 refine EvP.bind (spec_l08DrawSymbols.ev l lens _ a1 s1 hc1 (by omega)) (fun r hr => ?_)
 obtain ⟨sy, a2, s2⟩ := r
 obtain ⟨hc2, h2⟩ := hr
 simp only [] at hc2 h2
 refine hc2.once (by omega) 12 (fun b a3 s3 hc3 => ?_)
 refine EvP.either (fun _ => ?_) (fun _ => EvP.now ⟨h1, by simp only []; omega⟩)
 refine hc3.odd (by omega) (fun o a4 s4 _ _ hc4 => ?_)
 exact EvP.ip (show sy.length < 17592186044416 by omega) (EvP.now ⟨h1, by simp; omega⟩)
end Go.Proofs.Ytcjjmfpkhhdmlaa.G


namespace Go.Proofs.Ytcjjmfpkhhdmlaa.G
open Go.RowKit Go.Proofs.YtcjjmfpkhhdmlaaW.PrintWords Go.Proofs.YtcjjmfpkhhdmlaaW.PrintLast Go.Proofs.YtcjjmfpkhhdmlaaW.PrintMore
attribute [local go_sem] max2_int min2_int max_two min_two max_three min_three max_four min_four   -- for this text's walks alone
/-- a symbol that has a code -/
def okS (cs : List S124) (s : Int) : Bool := decide (0 ≤ s) && decide (s < cs.length) && decide ((rd_T124 cs s).f0 ≠ 0)
def fldsC (cs : List S124) (syms : List Int) : List S124 := syms.map fun s => rd_T124 cs s
def codeTextC (cs : List S124) (syms : List Int) : List Int := if syms.length ≤ 60000 ∧ syms.all (okS cs) = true then (if fldOk (fldsC cs syms) then packM (allBits (fldsC cs syms)) else []) else []
theorem codeTextC_bad {cs : List S124} {syms : List Int} {s : Int} (hs : s ∈ syms) (h : okS cs s = false) : codeTextC cs syms = [] := by
 unfold codeTextC
 rw [if_neg]
 intro hc
 have := List.all_eq_true.1 hc.2 s hs
 rw [h] at this
 cases this
theorem codeTextC_long {cs : List S124} {syms : List Int} (h : ¬ syms.length ≤ 60000) : codeTextC cs syms = [] := by
 unfold codeTextC
 exact if_neg (fun hc => h hc.1)
theorem codeTextC_none (syms : List Int) : codeTextC [] syms = [] := by
 cases syms with
 | nil =>
  unfold codeTextC
  split
  ·split
   ·rfl
   ·rfl
  ·rfl
 | cons s t => exact codeTextC_bad List.mem_cons_self (by unfold okS; simp; omega)
theorem codeTextC_ok {cs : List S124} {syms : List Int} (h1 : syms.length ≤ 60000) (h2 : syms.all (okS cs) = true) : codeTextC cs syms = if fldOk (fldsC cs syms) then packM (allBits (fldsC cs syms)) else [] := if_pos ⟨h1, h2⟩
end Go.Proofs.Ytcjjmfpkhhdmlaa.G


namespace Go.Proofs.Ytcjjmfpkhhdmlaa.G
open Go.RowKit Go.Proofs.YtcjjmfpkhhdmlaaW.PrintWords Go.Proofs.YtcjjmfpkhhdmlaaW.PrintLast Go.Proofs.YtcjjmfpkhhdmlaaW.PrintMore
attribute [local go_sem] max2_int min2_int max_two min_two max_three min_three max_four min_four   -- for this text's walks alone
--import Derived.WalkSpells
theorem eql_slice_nil {P : Program} (w : World) (t e : TypeId) (a : Option Addr) (n c n' c' : Nat) (h : P.underlying t = some (.slice e)) :
  (binOp .eql t (.slice a n c) (.slice none n' c')).run P w = .ok (.bool a.isNone) w := by
 simp only [binOp]
 simp [Op.equal, Op.maxDepth, Lib.run_equalIn_slice_nil w 9999 t e a n c n' c' h]
end Go.Proofs.Ytcjjmfpkhhdmlaa.G


namespace Go.Proofs.Ytcjjmfpkhhdmlaa.G
open Go.RowKit Go.Proofs.YtcjjmfpkhhdmlaaW.PrintWords Go.Proofs.YtcjjmfpkhhdmlaaW.PrintLast Go.Proofs.YtcjjmfpkhhdmlaaW.PrintMore
attribute [local go_sem] max2_int min2_int max_two min_two max_three min_three max_four min_four   -- for this text's walks alone
--import Derived.WalkSpells
--import Derived.Deep.LoopGhost
def impl_CodeText.f (l0 l1 : List Int) : Option (List Int) := if l0.length ≤ 1048576 ∧ l1.length ≤ 1048576 then some (codeTextC (codesM l0) l1) else none
set_option maxRecDepth 100000 in
set_option maxHeartbeats 4000000 in
theorem impl_CodeText.calls (A0 : Option Addr) (c0 : Nat) (l0 : List Int) (A1 : Option Addr) (c1 : Nat) (l1 : List Int) (r : List Int) (w : World) (hr0 : Kd.C (Kd.int .i64) w A0 l0.length l0) (hc0 : l0.length ≤ c0) (hr1 : Kd.C (Kd.int .i64) w A1 l1.length l1) (hc1 : l1.length ≤ c1) (h : impl_CodeText.f l0 l1 = some r) :
  Calls Try.prog 48 #[.slice A0 l0.length c0, .slice A1 l1.length c1] w fun e w' => ∃ v0_ : Value, e = .returned v0_ ∧ Kd.R (Kd.int .u8) 5 w' w.heap.size (fun _ => True) v0_ r ∧ Below w.heap.size w w' := by
 unfold impl_CodeText.f at h
 split at h
 ·rename_i hl
  obtain ⟨hl0, hl1⟩ := hl
  have HH := Aside0.mk (Option.some.inj h)
  have HR0 := Aside0.mk hr0
  have HC0 := Aside0.mk hc0
  have HR1 := Aside0.mk hr1
  have HC1 := Aside0.mk hc1
  obtain ⟨kc, hkc⟩ := (impl_CodesOf.ev l0 (by omega)).rounds
  have hsm := codesM_small l0
  obtain ⟨cs, hcs⟩ : ∃ cs, cs = codesM l0 := ⟨_, rfl⟩
  rw [← hcs] at hkc HH hsm
  have HKC := Aside0.mk hkc
  clear h hr0 hc0 hr1 hc1 hkc hcs
  go_enter Try.func48, Try.ntmps48
  go_wp2_with fail
  refine (impl_CodesOf.calls kc A0 c0 l0 cs _ HR0.out HC0.out HKC.out).mono ?_
  rintro e_ w1 ⟨v5, rfl, ho, hb⟩
  obtain ⟨A5, c5, e5⟩ := Kd.R_slice ho
  subst e5
  have HO := Aside0.mk ho
  have HB := Aside0.mk hb
  have HBD : Aside0 (∀ k, Value.ownBlock (.slice A5 cs.length c5) = some k → k < w1.heap.size) := ⟨Kd.R_lt ho⟩
  clear ho hb
  go_upto_region 2 with (first | ((with_reducible refine gate_dst (N := 11) rfl ?_); refine Kd.R_lit (w0 := w) k124 w.heap.size 124 ?hg (N := 11) ?hd (xs := ([] : List S124)) (inner := []) (ok := fun k => some k ≠ Value.ownBlock (.slice A5 cs.length c5)) (okp := fun _ => False) ?hr ?hp (fun _ hk => hk.elim) (fun e => by have := HBD.out _ e.symm; omega) HB.out HB.out.size (by simp) ?_; (case hd => rfl); (case hg => rfl); (case hr => first | (go_simp; done) | (go_simp; rfl)); (case hp => exact (Reps.none _ _)); intro v6 w2 ho hb hg_ hnew_; have HO6 := Aside0.mk ho; have HB2 := Aside0.mk hb; have HO5 := Aside0.mk (Kd.R_grown HO.out hg_ (fun _ _ => by simp)); have HN6 := Aside0.mk hnew_; clear ho hb hg_ hnew_))
  have he := eql_slice_nil (P := Try.prog) w2 87 124 A5 cs.length c5 0 0 Try.underlying87
  cases A5 with
  | none =>
   have hz : cs = [] := by
    cases cs with
    | nil => rfl
    | cons x t =>
     have h1 := (Kd.R_reads' HO5.out).2.2
     obtain ⟨ad, e, _⟩ := h1.2.2 (by simp)
     cases e
   have HZ := Aside0.mk hz
   have he2 : (binOp .eql 87 (.slice none cs.length c5) (.slice none 0 0)).run Try.prog w2 = .ok (.bool true) w2 := he
   clear hz he
   go_wp2
   go_ret
   have := HH.out
   rw [HZ.out, codeTextC_none] at this
   subst this
   exact ⟨_, rfl, Kd.R_nil _ _ _ _ _, HB2.out⟩
  | some a5 =>
   by_cases hlong : l1.length ≤ 60000
   ·have hd : decide ((l1.length : Int) > 60000) = false := decide_eq_false (by omega)
    have hd2 : ¬ (l1.length : Int) > 60000 := by omega
    go_wp2
    clear he hd hd2
    go_loopg [6, 21] (l1.length + 1) (fun kq v6 v21 w' => ∃ i : Nat, v21 = .int .i64 i ∧ i ≤ l1.length ∧ kq = l1.length - i + 1 ∧ Aside0 ((l1.take i).all (okS cs) = true) ∧ Aside0 (Kd.R k124 124 w' w.heap.size (fun _ => True) (.slice (some a5) cs.length c5) cs) ∧ Aside0 (Kd.R k124 124 w' w.heap.size (fun k => some k ≠ Value.ownBlock (.slice (some a5) cs.length c5)) v6 (fldsC cs (l1.take i))) ∧ Aside0 (Below w.heap.size w w'))
    case atStart => exact ⟨0, rfl, by omega, rfl, ⟨by simp⟩, HO5, ⟨by simpa [fldsC] using HO6.out⟩, HB2⟩
    case round =>
     clear HO6 HO5 HB2
     obtain ⟨i, rfl, hi, rfl, HALL, HO5, HO6, HB⟩ := hrel
     by_cases hlt : i < l1.length
     ·obtain ⟨ad, e1, hx⟩ := Kd.at_int HR1.out (i : Int) (by omega) (by omega)
      cases e1
      rw [Int.toNat_natCast, rd_nat l1 i hlt] at hx
      replace hx := (HB.out.cell (World.block_lt_of_cell? w _ hx)).trans hx
      obtain ⟨s, hs⟩ : ∃ s, s = l1[i] := ⟨_, rfl⟩
      rw [← hs] at hx
      have hsm2 : s ∈ l1 := by rw [hs]; exact List.getElem_mem hlt
      have HSM := Aside0.mk hsm2
      have HS := Aside0.mk hs
      have v1 : wrap64 ((cs.length : Int) - 1) = (cs.length : Int) - 1 := wrap_in _ (by omega) (by omega)
      obtain ⟨t1, ht1⟩ : ∃ t1 : Bool, t1 = (decide (0 ≤ s) && decide (s ≤ (cs.length : Int) - 1)) := ⟨_, rfl⟩
      have HW : Aside0 (impl_within.f s 0 ((cs.length : Int) - 1) = some t1) := ⟨by rw [ht1]; exact impl_within.val _ _ _⟩
      have HT1 := Aside0.mk ht1
      clear hs hsm2 ht1
      cases t1 with
      | false =>
       go_wp2_with fail
       refine (impl_within.calls s 0 ((cs.length : Int) - 1) false _ HW.out).mono ?_
       rintro e_ w_ ⟨rfl, ⟨nd, rfl⟩⟩
       go_wp2
       go_ret
       have hbad : okS cs s = false := by
        have := HT1.out.symm
        unfold okS
        rw [Bool.and_eq_false_iff]
        left
        rw [Bool.and_eq_false_iff] at this ⊢
        rcases this with h | h
        ·exact .inl h
        ·exact .inr (decide_eq_false (by have := of_decide_eq_false h; omega))
       have := HH.out
       rw [codeTextC_bad HSM.out hbad] at this
       subst this
       exact ⟨_, rfl, Kd.R_nil _ _ _ _ _, pw_below_drewN HB.out _⟩
      | true =>
       have hrg : 0 ≤ s ∧ s < cs.length := by
        have := HT1.out.symm
        simp only [Bool.and_eq_true, decide_eq_true_eq] at this
        omega
       obtain ⟨hs0, hs1⟩ := hrg
       obtain ⟨ac, e2, hf0, hf1⟩ := at_T124 (Kd.R_reads' HO5.out).2.2 s hs0 hs1
       cases e2
       obtain ⟨f, hf⟩ : ∃ f, f = rd_T124 cs s := ⟨_, rfl⟩
       rw [← hf] at hf0 hf1
       have HF := Aside0.mk hf
       clear hf
       by_cases hz : f.f0 = 0
       ·have hz1 : (f.f0 == 0) = true := by rw [hz]; rfl
        go_wp2_with fail
        refine (impl_within.calls s 0 ((cs.length : Int) - 1) true _ HW.out).mono ?_
        rintro e_ w_ ⟨rfl, ⟨nd, rfl⟩⟩
        go_wp2
        go_ret
        have hbad : okS cs s = false := by
         unfold okS
         rw [Bool.and_eq_false_iff]
         right
         rw [← HF.out, hz]
         decide
        have := HH.out
        rw [codeTextC_bad HSM.out hbad] at this
        subst this
        exact ⟨_, rfl, Kd.R_nil _ _ _ _ _, pw_below_drewN HB.out _⟩
       ·have hz1 : (f.f0 == 0) = false := by rw [beq_eq_false_iff_ne]; exact hz
        have HZ := Aside0.mk hz
        have hfl : (fldsC cs (l1.take i)).length ≤ 60000 := by unfold fldsC; rw [List.length_map, List.length_take]; omega
        have HFL := Aside0.mk hfl
        clear hz hfl
        go_wp2_with fail
        refine (impl_within.calls s 0 ((cs.length : Int) - 1) true _ HW.out).mono ?_
        rintro e_ w_ ⟨rfl, ⟨nd, rfl⟩⟩
        have HO5' := Aside0.mk (Kd.R_drewN HO5.out nd)
        have HO6' := Aside0.mk (Kd.R_drewN HO6.out nd)
        have HB' := Aside0.mk (pw_below_drewN HB.out nd)
        replace hx : (wr.drewN nd).cell? (ad.add i) = some (.int .i64 s) := hx
        replace hf0 : (wr.drewN nd).cell? (a5.add (s.toNat * 2)) = some (.int .i64 f.f0) := hf0
        replace hf1 : (wr.drewN nd).cell? ⟨(a5.add (s.toNat * 2)).block, (a5.add (s.toNat * 2)).off + 1, none⟩ = some (.int .i64 f.f1) := hf1
        generalize wr.drewN nd = w4 at HO5' HO6' HB' hx hf0 hf1 ⊢
        have hlt5 : Aside0 (∀ k, Value.ownBlock (.slice (some a5) cs.length c5) = some k → k < w4.heap.size) := ⟨Kd.R_lt HO5'.out⟩
        go_wp2_with (first | ((with_reducible refine gate_builtin (b := .append) (xs := #[.tmp 39, .tmp 44]) rfl ?_); at_builtin; go_loud (refine Kd.R_append k124 (w0 := w) w.heap.size rfl (.tmp 39) (.tmp 44) 87 124 (.agg #[(.int .i64 0), (.int .i64 0)]) 16 rfl Try.underlying87 info124 rfl (by decide) (by omega) u6 (fldsC cs (l1.take i)) f [.int .i64 f.f0, .int .i64 f.f1] (fun k => some k ≠ Value.ownBlock (.slice (some a5) cs.length c5)) (fun _ => False) rfl rfl (k124_mkM _ _ _ f) (fun _ hk => hk.elim) (fun k hk e => by have := hlt5.out k e.symm; omega) HO6'.out HB'.out HB'.out.size (by have := HFL.out; omega) ?_; intro v45 w6 ho hb hg hat); have HO7 := Aside0.mk ho; have HB7 := Aside0.mk hb; have HO8 := Aside0.mk (Kd.R_mono (ok' := fun _ => True) (Kd.R_after (ok := (fun _ => True)) (Kd.R_mono (Kd.R_tight rfl HO5'.out) (fun k hk => ⟨trivial, fun e => HO6'.out.1 k e.symm hk⟩)) hg hat) (fun _ _ => trivial)); clear ho hb hg hat))
        have HALL2 : Aside0 ((l1.take (i + 1)).all (okS cs) = true) := ⟨by
         rw [List.take_succ_eq_append_getElem hlt, List.all_append, HALL.out, ← HS.out]
         have := HZ.out
         simp only [Bool.true_and, List.all_cons, List.all_nil, Bool.and_true, okS, Bool.and_eq_true, decide_eq_true_eq]
         rw [← HF.out]
         exact ⟨⟨hs0, hs1⟩, this⟩⟩
        have HFL2 : Aside0 (fldsC cs (l1.take (i + 1)) = fldsC cs (l1.take i) ++ [f]) := ⟨by unfold fldsC; rw [List.take_succ_eq_append_getElem hlt, List.map_append, ← HS.out, HF.out]; rfl⟩
        go_roundg (l1.length - (i + 1) + 1)
        case rel => exact ⟨i + 1, by go_num, by omega, rfl, HALL2, HO8, ⟨by rw [HFL2.out]; exact HO7.out⟩, HB7⟩
        case measure => simp; omega
     ·obtain rfl : i = l1.length := by omega
      have hall := HALL.out
      rw [List.take_length] at hall
      have hO6 := HO6.out
      rw [List.take_length] at hO6
      have hfl : (fldsC cs l1).length ≤ 60000 := by unfold fldsC; rw [List.length_map]; omega
      have hv : impl_PackBits.f (fldsC cs l1) = some r := by
       unfold impl_PackBits.f
       rw [if_pos (by omega), ← codeTextC_ok hlong hall, HH.out]
      obtain ⟨A6, c6, e6⟩ := Kd.R_slice hO6
      subst e6
      have HO6' := Aside0.mk hO6
      have HV := Aside0.mk hv
      clear hall hO6 hfl hv HO6
      go_wp2_with fail
      refine (impl_PackBits.calls A6 c6 (fldsC cs l1) r _ (Kd.R_reads' HO6'.out).2.2 (Kd.R_reads' HO6'.out).2.1 HV.out).mono ?_
      rintro e_ w7 ⟨v48, rfl, ho, hb⟩
      have HO9 := Aside0.mk ho
      have HB9 := Aside0.mk hb
      clear ho hb
      go_wp2
      go_ret
      exact ⟨_, rfl, Kd.R_lower HO9.out HB.out.size, HB.out.trans (HB9.out.mono HB.out.size)⟩
   ·have hd : decide ((l1.length : Int) > 60000) = true := decide_eq_true (by omega)
    have hd2 : (l1.length : Int) > 60000 := by omega
    go_wp2
    go_ret
    have := HH.out
    rw [codeTextC_long hlong] at this
    subst this
    exact ⟨_, rfl, Kd.R_nil _ _ _ _ _, HB2.out⟩
 ·cases h
end Go.Proofs.Ytcjjmfpkhhdmlaa.G


namespace Go.Proofs.Ytcjjmfpkhhdmlaa.G
open Go.RowKit Go.Proofs.YtcjjmfpkhhdmlaaW.PrintWords Go.Proofs.YtcjjmfpkhhdmlaaW.PrintLast Go.Proofs.YtcjjmfpkhhdmlaaW.PrintMore
attribute [local go_sem] max2_int min2_int max_two min_two max_three min_three max_four min_four   -- for this text's walks alone
def laws_sameBytes.l0 : Nat → List Int → List Int → Int → Option (Bool)
 | 0, _, _, _ => none
 | k + 1, x0, x1, x5 => if x5 < (x0.length : Int) then (if 0 ≤ x5 then (if x5 < (x1.length : Int) then (if (rd x0 x5) = (rd x1 x5) then (laws_sameBytes.l0 k x0 x1 (wrap64 (x5 + 1))) else (some false)) else (none)) else (none)) else (some true)
def laws_sameBytes.f (k : Nat) (l0 : List Int) (l1 : List Int) : Option (Bool) := if (l0.length : Int) = (l1.length : Int) then (laws_sameBytes.l0 k l0 l1 0) else (some false)
set_option maxHeartbeats 8000000 in
set_option maxRecDepth 100000 in
theorem laws_sameBytes.calls (k : Nat) (A0 : Option Addr) (c0 : Nat) (l0 : List Int) (A1 : Option Addr) (c1 : Nat) (l1 : List Int) (r : Bool) (w : World) (hr0 : Kd.C (Kd.int .u8) w A0 l0.length l0) (hc0 : l0.length ≤ c0) (hr1 : Kd.C (Kd.int .u8) w A1 l1.length l1) (hc1 : l1.length ≤ c1) (h : laws_sameBytes.f k l0 l1 = some r) :
  Calls Try.prog 49 #[.slice A0 l0.length c0, .slice A1 l1.length c1] w fun e w' => e = .returned (.bool r) ∧ Drawn0 w w' := by
 have HR0 := Aside0.mk hr0
 have HC0 := Aside0.mk hc0
 clear hr0 hc0
 have HR1 := Aside0.mk hr1
 have HC1 := Aside0.mk hc1
 clear hr1 hc1
 have H : (if (l0.length : Int) = (l1.length : Int) then (laws_sameBytes.l0 k l0 l1 0) else (some false)) = some r := h
 clear h
 by_cases c3 : (l0.length : Int) = (l1.length : Int)
 ·rw [if_pos c3] at H
  have c3b0 : ((l0.length : Int) == (l1.length : Int)) = true := beq_iff_eq.mpr c3
  have c3b1 : ((l0.length : Int) != (l1.length : Int)) = false := bne_eq_false_iff_eq.mpr c3
  have c3b2 : (l0.length == l1.length) = true := by first | simpa using c3 | (simp at c3 ⊢; omega)
  clear c3
  have H' := Aside0.mk H
  clear H
  go_enter Try.func49, Try.ntmps49
  go_wp2
  repeat (go_quiet (fail); try go_wp2)
  go_loopg [5] k (fun kq v5 w' => ∃ (x5_1 : Int), v5 = .int .i64 x5_1 ∧ Aside0 (laws_sameBytes.l0 kq l0 l1 x5_1 = some r) ∧ Aside0 (kq ≤ k) ∧ Drawn0 w w')
  case atStart => exact ⟨(0), (by first | rfl | (simp; done) | (simp [*]; done)), H', ⟨Nat.le_refl _⟩, by repeat (first | exact Drawn0.refl _ | apply Drawn0.step)⟩
  case round =>
   clear H'
   try clear c1
   try clear p2
   try clear c3
   try clear c3b0
   try clear c3b1
   try clear c3b2
   obtain ⟨x5_1, rfl, HA, HK1, ⟨m1, rfl⟩⟩ := hrel
   cases gk with
   | zero => exact absurd HA.out (by simp [laws_sameBytes.l0])
   | succ k1 =>
    have H := HA.out
    clear HA
    simp only [laws_sameBytes.l0] at H
    by_cases c4 : x5_1 < (l0.length : Int)
    ·rw [if_pos c4] at H
     have c4b0 : decide (x5_1 < (l0.length : Int)) = true := decide_eq_true c4
     clear c4
     by_cases c5 : 0 ≤ x5_1
     ·rw [if_pos c5] at H
      have c5b0 : decide (0 ≤ x5_1) = true := decide_eq_true c5
      clear c5
      by_cases c6 : x5_1 < (l1.length : Int)
      ·rw [if_pos c6] at H
       have c6b0 : decide (x5_1 < (l1.length : Int)) = true := decide_eq_true c6
       clear c6
       by_cases c7 : (rd l0 x5_1) = (rd l1 x5_1)
       ·rw [if_pos c7] at H
        have c7b0 : ((rd l0 x5_1) == (rd l1 x5_1)) = true := beq_iff_eq.mpr c7
        have c7b1 : ((rd l0 x5_1) != (rd l1 x5_1)) = false := bne_eq_false_iff_eq.mpr c7
        clear c7
        have H' := Aside0.mk H
        clear H
        have p853 : 0 ≤ (x5_1 : Int) := of_decide_eq_true (by first | (with_reducible assumption) | assumption)
        have q853 : x5_1 < (l0.length : Int) := of_decide_eq_true (by first | (with_reducible assumption) | assumption)
        obtain ⟨ad853, e853, hx853_0⟩ := Kd.at_int HR0.out x5_1 p853 q853
        cases e853
        replace p853 := eq_true p853
        replace q853 := eq_true q853
        have p854 : 0 ≤ (x5_1 : Int) := of_decide_eq_true (by first | (with_reducible assumption) | assumption)
        have q854 : x5_1 < (l1.length : Int) := of_decide_eq_true (by first | (with_reducible assumption) | assumption)
        obtain ⟨ad854, e854, hx854_0⟩ := Kd.at_int HR1.out x5_1 p854 q854
        cases e854
        replace p854 := eq_true p854
        replace q854 := eq_true q854
        go_wp2
        repeat (go_quiet (fail); try go_wp2)
        go_roundg k1
        case measure => have := HK1.out; omega
        case rel => exact ⟨(wrap64 (x5_1 + 1)), (by first | rfl | (simp; done) | (simp [*]; done)), H', ⟨by have := HK1.out; omega⟩, by repeat (first | exact Drawn0.refl _ | apply Drawn0.step)⟩
       ·rw [if_neg c7] at H
        have c7b0 : ((rd l0 x5_1) == (rd l1 x5_1)) = false := beq_eq_false_iff_ne.mpr c7
        have c7b1 : ((rd l0 x5_1) != (rd l1 x5_1)) = true := bne_iff_ne.mpr c7
        obtain rfl := Option.some.inj H
        have p853 : 0 ≤ (x5_1 : Int) := of_decide_eq_true (by first | (with_reducible assumption) | assumption)
        have q853 : x5_1 < (l0.length : Int) := of_decide_eq_true (by first | (with_reducible assumption) | assumption)
        obtain ⟨ad853, e853, hx853_0⟩ := Kd.at_int HR0.out x5_1 p853 q853
        cases e853
        replace p853 := eq_true p853
        replace q853 := eq_true q853
        have p854 : 0 ≤ (x5_1 : Int) := of_decide_eq_true (by first | (with_reducible assumption) | assumption)
        have q854 : x5_1 < (l1.length : Int) := of_decide_eq_true (by first | (with_reducible assumption) | assumption)
        obtain ⟨ad854, e854, hx854_0⟩ := Kd.at_int HR1.out x5_1 p854 q854
        cases e854
        replace p854 := eq_true p854
        replace q854 := eq_true q854
        go_wp2
        repeat (go_quiet (fail); try go_wp2)
        go_ret
        exact ⟨by first | rfl | (simp; done) | (simp [*]; done), by repeat (first | exact Drawn0.refl _ | apply Drawn0.step)⟩
      ·rw [if_neg c6] at H
       exact absurd H (by simp)
     ·rw [if_neg c5] at H
      exact absurd H (by simp)
    ·rw [if_neg c4] at H
     have c4b0 : decide (x5_1 < (l0.length : Int)) = false := decide_eq_false c4
     clear c4
     obtain rfl := Option.some.inj H
     go_wp2
     repeat (go_quiet (fail); try go_wp2)
     go_ret
     exact ⟨by first | rfl | (simp; done) | (simp [*]; done), by repeat (first | exact Drawn0.refl _ | apply Drawn0.step)⟩
 ·rw [if_neg c3] at H
  have c3b0 : ((l0.length : Int) == (l1.length : Int)) = false := beq_eq_false_iff_ne.mpr c3
  have c3b1 : ((l0.length : Int) != (l1.length : Int)) = true := bne_iff_ne.mpr c3
  have c3b2 : (l0.length == l1.length) = false := by first | simpa using c3 | (simp at c3 ⊢; omega)
  obtain rfl := Option.some.inj H
  go_enter Try.func49, Try.ntmps49
  go_wp2
  repeat (go_quiet (fail); try go_wp2)
  go_ret
  exact ⟨by first | rfl | (simp; done) | (simp [*]; done), by repeat (first | exact Drawn0.refl _ | apply Drawn0.step)⟩
theorem laws_sameBytes.l0_ev (a : List Int) (ha : a.length ≤ 281474976710656) : ∀ (d i : Nat), i + d = a.length → Ev (fun k => laws_sameBytes.l0 k a a (i : Int)) true := by
 intro d
 induction d with
 | zero =>
  intro i hi
  exact Ev.step (fun _ => by rw [laws_sameBytes.l0]) (Ev.ng (by omega) (Ev.now _))
 | succ d ih =>
  intro i hi
  refine Ev.step (fun _ => by rw [laws_sameBytes.l0]) (Ev.ip (by omega) (Ev.ip (by omega) (Ev.ip (by omega) (Ev.ip (by rfl) ?_))))
  rw [wrap_succ i (by omega)]
  exact ih (i + 1) (by omega)
theorem laws_sameBytes.same (a : List Int) (ha : a.length ≤ 281474976710656) : Ev (fun k => laws_sameBytes.f k a a) true := Ev.ip rfl (laws_sameBytes.l0_ev a ha a.length 0 (Nat.zero_add _))
end Go.Proofs.Ytcjjmfpkhhdmlaa.G


namespace Go.Proofs.Ytcjjmfpkhhdmlaa.G
open Go.RowKit Go.Proofs.YtcjjmfpkhhdmlaaW.PrintWords Go.Proofs.YtcjjmfpkhhdmlaaW.PrintLast Go.Proofs.YtcjjmfpkhhdmlaaW.PrintMore
attribute [local go_sem] max2_int min2_int max_two min_two max_three min_three max_four min_four   -- for this text's walks alone
mutual
def spec_FieldsOk.l0 : Nat → List (S124) → Int → Int → Option (Bool)
 | 0, _, _, _ => none
 | k + 1, x0, x3, x4 => if x4 < (x0.length : Int) then (if 0 ≤ x4 then ((spec_l01Between.f ((rd_T124 x0 x4).f0) 0 16).bind fun t857 => (if t857 = true then (if 0 ≤ ((rd_T124 x0 x4).f0) then ((spec_l01Between.f ((rd_T124 x0 x4).f1) 0 (wrap64 ((shl .i64 1 ((rd_T124 x0 x4).f0)) - 1))).bind fun t858 => (spec_FieldsOk.j1 k x0 x3 x4 (!t858) ((rd_T124 x0 x4).f0) ((rd_T124 x0 x4).f1))) else (none)) else (spec_FieldsOk.j1 k x0 x3 x4 true ((rd_T124 x0 x4).f0) ((rd_T124 x0 x4).f1)))) else (none)) else (some true)
def spec_FieldsOk.j1 : Nat → List (S124) → Int → Int → Bool → Int → Int → Option (Bool)
 | 0, _, _, _, _, _, _ => none
 | k + 1, x0, x3, x4, x29, x857000, x857001 => if x29 = true then (some false) else (if (wrap64 (x3 + x857000)) > 480000 then (some false) else (spec_FieldsOk.l0 k x0 (wrap64 (x3 + x857000)) (wrap64 (x4 + 1))))
end
def spec_FieldsOk.f (k : Nat) (l0 : List (S124)) : Option (Bool) := spec_FieldsOk.l0 k l0 0 0
set_option maxHeartbeats 8000000 in
set_option maxRecDepth 100000 in
theorem spec_FieldsOk.calls (k : Nat) (A0 : Option Addr) (c0 : Nat) (l0 : List (S124)) (r : Bool) (w : World) (hr0 : Kd.C k124 w A0 l0.length l0) (hc0 : l0.length ≤ c0) (h : spec_FieldsOk.f k l0 = some r) :
  Calls Try.prog 158 #[.slice A0 l0.length c0] w fun e w' => e = .returned (.bool r) ∧ Below w.heap.size w w' := by
 have hu124 := Try.underlying124
 have HR0 := Aside0.mk hr0
 have HC0 := Aside0.mk hc0
 clear hr0 hc0
 have HB := Aside0.mk (Below.refl w.heap.size w)
 have H : (spec_FieldsOk.l0 k l0 0 0) = some r := h
 clear h
 have H' := Aside0.mk H
 clear H
 go_enter Try.func158, Try.ntmps158
 go_wp2
 repeat (go_quiet (fail); try go_wp2)
 go_loopg [3, 4] k (fun kq v3 v4 w' => ∃ (x3_1 : Int) (x4_1 : Int), v3 = .int .i64 x3_1 ∧ v4 = .int .i64 x4_1 ∧ Aside0 (spec_FieldsOk.l0 kq l0 x3_1 x4_1 = some r) ∧ Aside0 (kq ≤ k) ∧ Aside0 (Below w.heap.size w w'))
 case atStart => exact ⟨(0), (0), (by first | rfl | (simp; done) | (simp [*]; done)), (by first | rfl | (simp; done) | (simp [*]; done)), H', ⟨Nat.le_refl _⟩, ⟨by repeat (first | (with_reducible first | exact HB.out | apply below_alloc | apply pw_below_drewN | apply below_drew1) | exact HB.out)⟩⟩
 case round =>
  clear H'
  try clear c1
  obtain ⟨x3_1, x4_1, rfl, rfl, HA, HK1, HB⟩ := hrel
  cases gk with
  | zero => exact absurd HA.out (by simp [spec_FieldsOk.l0])
  | succ k1 =>
   have H := HA.out
   clear HA
   simp only [spec_FieldsOk.l0] at H
   by_cases c2 : x4_1 < (l0.length : Int)
   ·rw [if_pos c2] at H
    have c2b0 : decide (x4_1 < (l0.length : Int)) = true := decide_eq_true c2
    clear c2
    by_cases c3 : 0 ≤ x4_1
    ·rw [if_pos c3] at H
     have c3b0 : decide (0 ≤ x4_1) = true := decide_eq_true c3
     clear c3
     have HC4 := Aside0.mk H
     clear H
     have p855 : 0 ≤ (x4_1 : Int) := of_decide_eq_true (by first | (with_reducible assumption) | assumption)
     have q855 : x4_1 < (l0.length : Int) := of_decide_eq_true (by first | (with_reducible assumption) | assumption)
     obtain ⟨ad855, e855, hx855_0, hx855_1⟩ := at_T124 HR0.out x4_1 p855 q855
     cases e855
     replace hx855_0 := (HB.out.cell (World.block_lt_of_cell? w _ hx855_0)).trans hx855_0
     replace hx855_1 := (HB.out.cell (World.block_lt_of_cell? w _ hx855_1)).trans hx855_1
     replace p855 := eq_true p855
     replace q855 := eq_true q855
     go_upto_region 6 with (first | ((with_reducible refine gate_dst (N := 5) rfl ?_); refine box_event ?hg (N := 5) ?hd (cs := #[.int .i64 0, .int .i64 0]) (t := 124) ?hr ?_; (case hd => rfl); (case hg => rfl); (case hr => first | (go_simp; done) | (go_simp; rfl)); intro gb856 hg w5 hbox hb; have n0_ := Aside0.mk (below_step (by repeat (first | (with_reducible first | exact HB.out | apply below_alloc | apply pw_below_drewN | apply below_drew1) | exact HB.out)) hb); have n1_ := Aside0.mk (hbox); have n2_ := Aside0.mk ((by rw [hg]; exact (below_size (by repeat (first | (with_reducible first | exact HB.out | apply below_alloc | apply pw_below_drewN | apply below_drew1) | exact HB.out))) : w.heap.size ≤ gb856)); have n3_ := Aside0.mk ((by rw [hg]; exact (below_size (by repeat (first | (with_reducible first | exact HB.out | apply below_alloc | apply pw_below_drewN | apply below_drew1) | exact HB.out))) : w.heap.size ≤ gb856)); clear HB; have HB := n0_; have BK856 := n1_; have GW856 := n2_; have GE856 := n3_; clear n0_ n1_ n2_ n3_; clear hb hbox hg; have hcz6_0 : w5.cell? ⟨gb856, 0, none⟩ = some (.int .i64 0) := (blk_cell BK856.out 0).trans rfl; have hcz6_1 : w5.cell? ⟨gb856, 1, none⟩ = some (.int .i64 0) := (blk_cell BK856.out 1).trans rfl; have hfz6_0 := blk_frozen BK856.out 0; have hfz6_1 := blk_frozen BK856.out 1))
     repeat (go_quiet (first | ((with_reducible refine gate_dst (N := 5) rfl ?_); refine box_event ?hg (N := 5) ?hd (cs := #[.int .i64 0, .int .i64 0]) (t := 124) ?hr ?_; (case hd => rfl); (case hg => rfl); (case hr => first | (go_simp; done) | (go_simp; rfl)); intro gb856 hg w5 hbox hb; have n0_ := Aside0.mk (below_step (by repeat (first | (with_reducible first | exact HB.out | apply below_alloc | apply pw_below_drewN | apply below_drew1) | exact HB.out)) hb); have n1_ := Aside0.mk (hbox); have n2_ := Aside0.mk ((by rw [hg]; exact (below_size (by repeat (first | (with_reducible first | exact HB.out | apply below_alloc | apply pw_below_drewN | apply below_drew1) | exact HB.out))) : w.heap.size ≤ gb856)); have n3_ := Aside0.mk ((by rw [hg]; exact (below_size (by repeat (first | (with_reducible first | exact HB.out | apply below_alloc | apply pw_below_drewN | apply below_drew1) | exact HB.out))) : w.heap.size ≤ gb856)); clear HB; have HB := n0_; have BK856 := n1_; have GW856 := n2_; have GE856 := n3_; clear n0_ n1_ n2_ n3_; clear hb hbox hg; have hcz6_0 : w5.cell? ⟨gb856, 0, none⟩ = some (.int .i64 0) := (blk_cell BK856.out 0).trans rfl; have hcz6_1 : w5.cell? ⟨gb856, 1, none⟩ = some (.int .i64 0) := (blk_cell BK856.out 1).trans rfl; have hfz6_0 := blk_frozen BK856.out 0; have hfz6_1 := blk_frozen BK856.out 1)); go_upto_region 6 with (first | ((with_reducible refine gate_dst (N := 5) rfl ?_); refine box_event ?hg (N := 5) ?hd (cs := #[.int .i64 0, .int .i64 0]) (t := 124) ?hr ?_; (case hd => rfl); (case hg => rfl); (case hr => first | (go_simp; done) | (go_simp; rfl)); intro gb856 hg w5 hbox hb; have n0_ := Aside0.mk (below_step (by repeat (first | (with_reducible first | exact HB.out | apply below_alloc | apply pw_below_drewN | apply below_drew1) | exact HB.out)) hb); have n1_ := Aside0.mk (hbox); have n2_ := Aside0.mk ((by rw [hg]; exact (below_size (by repeat (first | (with_reducible first | exact HB.out | apply below_alloc | apply pw_below_drewN | apply below_drew1) | exact HB.out))) : w.heap.size ≤ gb856)); have n3_ := Aside0.mk ((by rw [hg]; exact (below_size (by repeat (first | (with_reducible first | exact HB.out | apply below_alloc | apply pw_below_drewN | apply below_drew1) | exact HB.out))) : w.heap.size ≤ gb856)); clear HB; have HB := n0_; have BK856 := n1_; have GW856 := n2_; have GE856 := n3_; clear n0_ n1_ n2_ n3_; clear hb hbox hg; have hcz6_0 : w5.cell? ⟨gb856, 0, none⟩ = some (.int .i64 0) := (blk_cell BK856.out 0).trans rfl; have hcz6_1 : w5.cell? ⟨gb856, 1, none⟩ = some (.int .i64 0) := (blk_cell BK856.out 1).trans rfl; have hfz6_0 := blk_frozen BK856.out 0; have hfz6_1 := blk_frozen BK856.out 1)))
     (try simp only [Act.put, List.setIfInBounds_toArray, List.set_cons_zero, List.set_cons_succ])
     go_cut [29] (fun v29 wc => ∃ (kq : Nat) (x29_3 : Bool), v29 = .bool x29_3 ∧ Aside0 (spec_FieldsOk.j1 kq l0 x3_1 x4_1 x29_3 ((rd_T124 l0 x4_1).f0) ((rd_T124 l0 x4_1).f1) = some r) ∧ Aside0 (kq ≤ k1) ∧ Aside0 (wc.heap[gb856]? = some (.cells #[.int .i64 ((rd_T124 l0 x4_1).f0), .int .i64 ((rd_T124 l0 x4_1).f1)] 124 (0, 0))) ∧ Aside0 (Below w.heap.size w wc))
     case first =>
      have H := HC4.out
      clear HC4
      replace H := Option.bind_eq_some_iff.mp H
      obtain ⟨t857, A70, H⟩ := H
      replace H : (if t857 = true then (if 0 ≤ ((rd_T124 l0 x4_1).f0) then ((spec_l01Between.f ((rd_T124 l0 x4_1).f1) 0 (wrap64 ((shl .i64 1 ((rd_T124 l0 x4_1).f0)) - 1))).bind fun t858 => (spec_FieldsOk.j1 k1 l0 x3_1 x4_1 (!t858) ((rd_T124 l0 x4_1).f0) ((rd_T124 l0 x4_1).f1))) else (none)) else (spec_FieldsOk.j1 k1 l0 x3_1 x4_1 true ((rd_T124 l0 x4_1).f0) ((rd_T124 l0 x4_1).f1))) = some r := H
      have A7 := Aside0.mk A70
      clear A70
      by_cases c8 : t857 = true
      ·subst c8
       have H1 : (if 0 ≤ ((rd_T124 l0 x4_1).f0) then ((spec_l01Between.f ((rd_T124 l0 x4_1).f1) 0 (wrap64 ((shl .i64 1 ((rd_T124 l0 x4_1).f0)) - 1))).bind fun t858 => (spec_FieldsOk.j1 k1 l0 x3_1 x4_1 (!t858) ((rd_T124 l0 x4_1).f0) ((rd_T124 l0 x4_1).f1))) else (none)) = some r := by rw [if_pos rfl] at H; exact H
       clear H
       have H := H1
       clear H1
       by_cases c9 : 0 ≤ ((rd_T124 l0 x4_1).f0)
       ·rw [if_pos c9] at H
        have c9b0 := eq_true c9
        have c9b1 : decide (0 ≤ ((rd_T124 l0 x4_1).f0)) = true := decide_eq_true c9
        clear c9
        obtain ⟨ji10, hji10⟩ : ∃ j_ : Int, (shl .i64 1 ((rd_T124 l0 x4_1).f0)) = j_ := ⟨_, rfl⟩
        replace H : ((spec_l01Between.f ((rd_T124 l0 x4_1).f1) 0 (wrap64 ((ji10) - 1))).bind fun t858 => (spec_FieldsOk.j1 k1 l0 x3_1 x4_1 (!t858) ((rd_T124 l0 x4_1).f0) ((rd_T124 l0 x4_1).f1))) = some r := by first | (rw [hji10] at H; exact H) | (simp only [hji10] at H ⊢; exact H)
        (try rw [hji10] at A7)
        have hji10_ : (IntKind.i64.wrap (1 * 2 ^ min ((rd_T124 l0 x4_1).f0).toNat 64)) = ji10 := hji10
        have hji10z : ((rd_T124 l0 x4_1).f0) ≤ 64 → (IntKind.i64.wrap (1 * 2 ^ ((rd_T124 l0 x4_1).f0).toNat)) = ji10 := shl_small hji10
        have hji10u : (IntKind.i64.wrap (2 ^ min ((rd_T124 l0 x4_1).f0).toNat 64)) = ji10 := by have h_ := hji10_; rw [Int.one_mul] at h_; exact h_
        have hji10v : ((rd_T124 l0 x4_1).f0) ≤ 64 → (IntKind.i64.wrap (2 ^ ((rd_T124 l0 x4_1).f0).toNat)) = ji10 := fun hle_ => by have h_ := hji10z hle_; rw [Int.one_mul] at h_; exact h_
        have hji10y : (wrap64 (1 * 2 ^ min ((rd_T124 l0 x4_1).f0).toNat 64)) = ji10 := (i64_w _).symm.trans hji10_
        have hji10x : ((rd_T124 l0 x4_1).f0) ≤ 64 → (wrap64 (1 * 2 ^ ((rd_T124 l0 x4_1).f0).toNat)) = ji10 := fun h_ => (i64_w _).symm.trans (hji10z h_)
        replace H := Option.bind_eq_some_iff.mp H
        obtain ⟨t858, A110, H⟩ := H
        replace H : (spec_FieldsOk.j1 k1 l0 x3_1 x4_1 (!t858) ((rd_T124 l0 x4_1).f0) ((rd_T124 l0 x4_1).f1)) = some r := H
        have A11 := Aside0.mk A110
        clear A110
        have H' := Aside0.mk H
        clear H
        have hcz12_0 : w5.cell? ⟨gb856, 0, none⟩ = some (.int .i64 0) := (blk_cell BK856.out 0).trans rfl
        have hcz12_1 : w5.cell? ⟨gb856, 1, none⟩ = some (.int .i64 0) := (blk_cell BK856.out 1).trans rfl
        have hfz12_0 := blk_frozen BK856.out 0
        have hfz12_1 := blk_frozen BK856.out 1
        go_wp2_with (first | (go_at_call 78; (with_reducible refine (spec_l01Between.calls ((rd_T124 l0 x4_1).f0) 0 16 true _ A7.out).mono ?_); rintro e w' ⟨rfl, ⟨nd, rfl⟩⟩; (try first | exact ⟨rfl, _, World.drewN_drewN _ _ _⟩ | exact ⟨rfl, _, Eq.trans (World.drewN_drewN _ _ _) (congrArg (World.drewN _) (Nat.add_assoc _ _ _))⟩)) | (go_at_call 78; (with_reducible refine (spec_l01Between.calls ((rd_T124 l0 x4_1).f1) 0 (wrap64 ((ji10) - 1)) t858 _ A11.out).mono ?_); rintro e w' ⟨rfl, ⟨nd, rfl⟩⟩; (try first | exact ⟨rfl, _, World.drewN_drewN _ _ _⟩ | exact ⟨rfl, _, Eq.trans (World.drewN_drewN _ _ _) (congrArg (World.drewN _) (Nat.add_assoc _ _ _))⟩)))
        repeat (go_quiet (first | (go_at_call 78; (with_reducible refine (spec_l01Between.calls ((rd_T124 l0 x4_1).f0) 0 16 true _ A7.out).mono ?_); rintro e w' ⟨rfl, ⟨nd, rfl⟩⟩; (try first | exact ⟨rfl, _, World.drewN_drewN _ _ _⟩ | exact ⟨rfl, _, Eq.trans (World.drewN_drewN _ _ _) (congrArg (World.drewN _) (Nat.add_assoc _ _ _))⟩)) | (go_at_call 78; (with_reducible refine (spec_l01Between.calls ((rd_T124 l0 x4_1).f1) 0 (wrap64 ((ji10) - 1)) t858 _ A11.out).mono ?_); rintro e w' ⟨rfl, ⟨nd, rfl⟩⟩; (try first | exact ⟨rfl, _, World.drewN_drewN _ _ _⟩ | exact ⟨rfl, _, Eq.trans (World.drewN_drewN _ _ _) (congrArg (World.drewN _) (Nat.add_assoc _ _ _))⟩))); try go_wp2_with (first | (go_at_call 78; (with_reducible refine (spec_l01Between.calls ((rd_T124 l0 x4_1).f0) 0 16 true _ A7.out).mono ?_); rintro e w' ⟨rfl, ⟨nd, rfl⟩⟩; (try first | exact ⟨rfl, _, World.drewN_drewN _ _ _⟩ | exact ⟨rfl, _, Eq.trans (World.drewN_drewN _ _ _) (congrArg (World.drewN _) (Nat.add_assoc _ _ _))⟩)) | (go_at_call 78; (with_reducible refine (spec_l01Between.calls ((rd_T124 l0 x4_1).f1) 0 (wrap64 ((ji10) - 1)) t858 _ A11.out).mono ?_); rintro e w' ⟨rfl, ⟨nd, rfl⟩⟩; (try first | exact ⟨rfl, _, World.drewN_drewN _ _ _⟩ | exact ⟨rfl, _, Eq.trans (World.drewN_drewN _ _ _) (congrArg (World.drewN _) (Nat.add_assoc _ _ _))⟩))))
        go_meet
        case rel => exact ⟨_, (!t858), (by first | rfl | (simp; done) | (simp [*]; done)), H', ⟨by have := HK1.out; first | omega | exact Nat.le_refl _⟩, ⟨by (with_reducible repeat (first | refine blk_drewN ?_ _ | refine blk_drew ?_ | refine blk_alloc ?_ _)); refine blk_put (cs := #[.int .i64 ((rd_T124 l0 x4_1).f0), .int .i64 0]) ?_ 1 _ rfl; (with_reducible repeat (first | refine blk_drewN ?_ _ | refine blk_drew ?_ | refine blk_alloc ?_ _)); refine blk_put (cs := #[.int .i64 0, .int .i64 0]) ?_ 0 _ rfl; (with_reducible repeat (first | refine blk_drewN ?_ _ | refine blk_drew ?_ | refine blk_alloc ?_ _)); exact BK856.out⟩, ⟨by repeat (first | (with_reducible first | exact HB.out | apply below_alloc | apply pw_below_drewN | apply below_drew1 | refine below_set ?_ GE856.out) | exact HB.out)⟩⟩
       ·rw [if_neg c9] at H
        exact absurd H (by simp)
      ·replace c8 := Bool.eq_false_iff.mpr c8
       subst c8
       have H1 : (spec_FieldsOk.j1 k1 l0 x3_1 x4_1 true ((rd_T124 l0 x4_1).f0) ((rd_T124 l0 x4_1).f1)) = some r := by rw [if_neg (show ¬ (false = true) by decide)] at H; exact H
       clear H
       have H := H1
       clear H1
       have H' := Aside0.mk H
       clear H
       have hcz13_0 : w5.cell? ⟨gb856, 0, none⟩ = some (.int .i64 0) := (blk_cell BK856.out 0).trans rfl
       have hcz13_1 : w5.cell? ⟨gb856, 1, none⟩ = some (.int .i64 0) := (blk_cell BK856.out 1).trans rfl
       have hfz13_0 := blk_frozen BK856.out 0
       have hfz13_1 := blk_frozen BK856.out 1
       go_wp2_with (first | (go_at_call 78; (with_reducible refine (spec_l01Between.calls ((rd_T124 l0 x4_1).f0) 0 16 false _ A7.out).mono ?_); rintro e w' ⟨rfl, ⟨nd, rfl⟩⟩; (try first | exact ⟨rfl, _, World.drewN_drewN _ _ _⟩ | exact ⟨rfl, _, Eq.trans (World.drewN_drewN _ _ _) (congrArg (World.drewN _) (Nat.add_assoc _ _ _))⟩)))
       repeat (go_quiet (first | (go_at_call 78; (with_reducible refine (spec_l01Between.calls ((rd_T124 l0 x4_1).f0) 0 16 false _ A7.out).mono ?_); rintro e w' ⟨rfl, ⟨nd, rfl⟩⟩; (try first | exact ⟨rfl, _, World.drewN_drewN _ _ _⟩ | exact ⟨rfl, _, Eq.trans (World.drewN_drewN _ _ _) (congrArg (World.drewN _) (Nat.add_assoc _ _ _))⟩))); try go_wp2_with (first | (go_at_call 78; (with_reducible refine (spec_l01Between.calls ((rd_T124 l0 x4_1).f0) 0 16 false _ A7.out).mono ?_); rintro e w' ⟨rfl, ⟨nd, rfl⟩⟩; (try first | exact ⟨rfl, _, World.drewN_drewN _ _ _⟩ | exact ⟨rfl, _, Eq.trans (World.drewN_drewN _ _ _) (congrArg (World.drewN _) (Nat.add_assoc _ _ _))⟩))))
       go_meet
       case rel => exact ⟨_, (true), (by first | rfl | (simp; done) | (simp [*]; done)), H', ⟨by have := HK1.out; first | omega | exact Nat.le_refl _⟩, ⟨by (with_reducible repeat (first | refine blk_drewN ?_ _ | refine blk_drew ?_ | refine blk_alloc ?_ _)); refine blk_put (cs := #[.int .i64 ((rd_T124 l0 x4_1).f0), .int .i64 0]) ?_ 1 _ rfl; (with_reducible repeat (first | refine blk_drewN ?_ _ | refine blk_drew ?_ | refine blk_alloc ?_ _)); refine blk_put (cs := #[.int .i64 0, .int .i64 0]) ?_ 0 _ rfl; (with_reducible repeat (first | refine blk_drewN ?_ _ | refine blk_drew ?_ | refine blk_alloc ?_ _)); exact BK856.out⟩, ⟨by repeat (first | (with_reducible first | exact HB.out | apply below_alloc | apply pw_below_drewN | apply below_drew1 | refine below_set ?_ GE856.out) | exact HB.out)⟩⟩
     case rest =>
      clear HC4
      try clear c1
      try clear c2
      try clear c2b0
      try clear p2
      try clear c3
      try clear c3b0
      try clear p6
      try clear c8
      try clear p8
      try clear q8
      try clear hx8
      try clear c9
      try clear c9b0
      try clear c9b1
      try clear hcz12_0
      try clear hcz12_1
      try clear hcz13_0
      try clear hcz13_1
      try clear hcz6_0
      try clear hcz6_1
      try clear hfz12_0
      try clear hfz12_1
      try clear hfz13_0
      try clear hfz13_1
      try clear hfz6_0
      try clear hfz6_1
      try clear hx855_0
      try clear hx855_1
      try clear p855
      try clear q855
      obtain ⟨kq, x29_3, rfl, HA, HJ3, BK856, HB⟩ := hcut
      cases kq with
      | zero => exact absurd HA.out (by simp [spec_FieldsOk.j1])
      | succ kj3 =>
       have H := HA.out
       clear HA
       simp only [spec_FieldsOk.j1] at H
       by_cases c14 : x29_3 = true
       ·subst c14
        have H1 : (some false) = some r := by rw [if_pos rfl] at H; exact H
        clear H
        have H := H1
        clear H1
        obtain rfl := Option.some.inj H
        go_wp2
        repeat (go_quiet (fail); try go_wp2)
        go_ret
        exact ⟨by first | rfl | (simp [errW_none, errW_some] <;> rfl) | (simp [*, errW_none, errW_some] <;> rfl), by repeat (first | (with_reducible first | exact HB.out | apply below_alloc | apply pw_below_drewN | apply below_drew1 | refine below_set ?_ GE856.out) | exact HB.out)⟩
       ·replace c14 := Bool.eq_false_iff.mpr c14
        subst c14
        have H1 : (if (wrap64 (x3_1 + ((rd_T124 l0 x4_1).f0))) > 480000 then (some false) else (spec_FieldsOk.l0 kj3 l0 (wrap64 (x3_1 + ((rd_T124 l0 x4_1).f0))) (wrap64 (x4_1 + 1)))) = some r := by rw [if_neg (show ¬ (false = true) by decide)] at H; exact H
        clear H
        have H := H1
        clear H1
        by_cases c15 : (wrap64 (x3_1 + ((rd_T124 l0 x4_1).f0))) > 480000
        ·rw [if_pos c15] at H
         have c15b0 : decide (480000 < (wrap64 (x3_1 + ((rd_T124 l0 x4_1).f0)))) = true := decide_eq_true c15
         clear c15
         obtain rfl := Option.some.inj H
         have hcz16_0 : wc.cell? ⟨gb856, 0, none⟩ = some (.int .i64 ((rd_T124 l0 x4_1).f0)) := (blk_cell BK856.out 0).trans rfl
         have hcz16_1 : wc.cell? ⟨gb856, 1, none⟩ = some (.int .i64 ((rd_T124 l0 x4_1).f1)) := (blk_cell BK856.out 1).trans rfl
         have hfz16_0 := blk_frozen BK856.out 0
         have hfz16_1 := blk_frozen BK856.out 1
         go_wp2
         repeat (go_quiet (fail); try go_wp2)
         go_ret
         exact ⟨by first | rfl | (simp [errW_none, errW_some] <;> rfl) | (simp [*, errW_none, errW_some] <;> rfl), by repeat (first | (with_reducible first | exact HB.out | apply below_alloc | apply pw_below_drewN | apply below_drew1 | refine below_set ?_ GE856.out) | exact HB.out)⟩
        ·rw [if_neg c15] at H
         have c15b0 : decide (480000 < (wrap64 (x3_1 + ((rd_T124 l0 x4_1).f0)))) = false := decide_eq_false c15
         clear c15
         have H' := Aside0.mk H
         clear H
         have hcz17_0 : wc.cell? ⟨gb856, 0, none⟩ = some (.int .i64 ((rd_T124 l0 x4_1).f0)) := (blk_cell BK856.out 0).trans rfl
         have hcz17_1 : wc.cell? ⟨gb856, 1, none⟩ = some (.int .i64 ((rd_T124 l0 x4_1).f1)) := (blk_cell BK856.out 1).trans rfl
         have hfz17_0 := blk_frozen BK856.out 0
         have hfz17_1 := blk_frozen BK856.out 1
         go_wp2
         repeat (go_quiet (fail); try go_wp2)
         go_roundg kj3
         case measure => have := HK1.out; have := HJ3.out; omega
         case rel => exact ⟨(wrap64 (x3_1 + ((rd_T124 l0 x4_1).f0))), (wrap64 (x4_1 + 1)), (by first | rfl | (simp; done) | (simp [*]; done)), (by first | rfl | (simp; done) | (simp [*]; done)), H', ⟨by have := HK1.out; have := HJ3.out; omega⟩, ⟨by repeat (first | (with_reducible first | exact HB.out | apply below_alloc | apply pw_below_drewN | apply below_drew1 | refine below_set ?_ GE856.out) | exact HB.out)⟩⟩
    ·rw [if_neg c3] at H
     exact absurd H (by simp)
   ·rw [if_neg c2] at H
    have c2b0 : decide (x4_1 < (l0.length : Int)) = false := decide_eq_false c2
    clear c2
    obtain rfl := Option.some.inj H
    go_wp2
    repeat (go_quiet (fail); try go_wp2)
    go_ret
    exact ⟨by first | rfl | (simp [errW_none, errW_some] <;> rfl) | (simp [*, errW_none, errW_some] <;> rfl), by repeat (first | (with_reducible first | exact HB.out | apply below_alloc | apply pw_below_drewN | apply below_drew1) | exact HB.out)⟩
theorem spec_FieldsOk.l0_ev (l : List S124) (hl : l.length ≤ 1048576) : ∀ (d i : Nat) (x : Int), l.length - i = d → i ≤ l.length → 0 ≤ x → x ≤ 480000 → Ev (fun k => spec_FieldsOk.l0 k l x (i : Int)) ((l.drop i).all fOk && decide (x + sumF (l.drop i) ≤ 480000)) := by
 intro d
 induction d with
 | zero =>
  intro i x hd hi h0 h1
  obtain rfl : i = l.length := by omega
  refine Ev.step (fun _ => by rw [spec_FieldsOk.l0]) (Ev.ng (by omega) (Ev.eq (Ev.now _) ?_))
  rw [List.drop_length]; simp [sumF, h1]
 | succ d ih =>
  intro i x hd hi h0 h1
  have h : i < l.length := by omega
  rw [List.drop_eq_getElem_cons h]
  refine Ev.step (fun _ => by rw [spec_FieldsOk.l0]) (Ev.ip (by omega) (Ev.ip (by omega) ?_))
  rw [rdF_nat l i h]
  refine Ev.bind (Ev.c (spec_l01Between.val _ _ _)) ?_
  by_cases ha : (decide (0 ≤ l[i].f0) && decide (l[i].f0 ≤ 16)) = true
  ·have ha' : 0 ≤ l[i].f0 ∧ l[i].f0 ≤ 16 := by simpa using ha
   refine Ev.ip ha (Ev.ip ha'.1 ?_)
   rw [shl_mask16 l[i].f0 ha'.1 ha'.2]
   refine Ev.bind (Ev.c (spec_l01Between.val _ _ _)) ?_
   refine Ev.step (fun _ => by rw [spec_FieldsOk.j1]) ?_
   by_cases hb : (decide (0 ≤ l[i].f1) && decide (l[i].f1 ≤ 2 ^ l[i].f0.toNat - 1)) = true
   ·have hf : fOk l[i] = true := by unfold fOk; rw [ha, hb]; rfl
    refine Ev.ng (by rw [hb]; decide) ?_
    rw [wrap_in (x + l[i].f0) (by omega) (by omega), wrap_succ i (by omega), List.all_cons, hf, Bool.true_and, sumF]
    by_cases hc : x + l[i].f0 > 480000
    ·refine Ev.ip hc (Ev.eq (Ev.now _) ?_)
     by_cases hd : (l.drop (i + 1)).all fOk = true
     ·have := sumF_nn _ hd
      rw [hd, decide_eq_false (by omega)]; rfl
     ·rw [Bool.eq_false_iff.2 hd]; rfl
    ·refine Ev.ng hc (Ev.eq (ih (i + 1) (x + l[i].f0) (by omega) (by omega) (by omega) (by omega)) ?_)
     rw [Int.add_assoc]
   ·refine Ev.ip (by rw [Bool.eq_false_iff.2 hb]; decide) (Ev.eq (Ev.now _) ?_)
    have hf : fOk l[i] = false := by unfold fOk; rw [Bool.eq_false_iff.2 hb, Bool.and_false]
    rw [List.all_cons, hf]; rfl
  ·refine Ev.ng ha (Ev.step (fun _ => by rw [spec_FieldsOk.j1]) (Ev.ip (by decide) (Ev.eq (Ev.now _) ?_)))
   have hf : fOk l[i] = false := by unfold fOk; rw [Bool.eq_false_iff.2 ha]; rfl
   rw [List.all_cons, hf]; rfl
theorem spec_FieldsOk.ev (l : List S124) (h : l.length ≤ 1048576) : Ev (fun k => spec_FieldsOk.f k l) (fldOk l) := by
 have := spec_FieldsOk.l0_ev l h l.length 0 0 (by omega) (by omega) (by omega) (by omega)
 rw [List.drop_zero, Int.zero_add] at this
 exact this
end Go.Proofs.Ytcjjmfpkhhdmlaa.G


namespace Go.Proofs.Ytcjjmfpkhhdmlaa.G
open Go.RowKit Go.Proofs.YtcjjmfpkhhdmlaaW.PrintWords Go.Proofs.YtcjjmfpkhhdmlaaW.PrintLast Go.Proofs.YtcjjmfpkhhdmlaaW.PrintMore
attribute [local go_sem] max2_int min2_int max_two min_two max_three min_three max_four min_four   -- for this text's walks alone
def spec_l01Bits.l0 : Nat → List Bool → Int → Int → Option (List Bool)
 | 0, _, _, _ => none
 | k + 1, x0, x2, x7 => if x7 ≥ 0 then (if 0 ≤ x7 then (if x0.length < 140737488355328 then (spec_l01Bits.l0 k (x0 ++ [((Go.bits .and .i64 (shr .i64 x2 x7) 1) == 1)]) x2 (wrap64 (x7 - 1))) else (none)) else (none)) else (some x0)
def spec_l01Bits.f (k : Nat) (l0 : List Bool) (a1 : Int) (a2 : Int) : Option (List Bool) := spec_l01Bits.l0 k l0 a2 (wrap64 (a1 - 1))
set_option maxHeartbeats 8000000 in
set_option maxRecDepth 100000 in
theorem spec_l01Bits.calls (k : Nat) (P0_ : Nat → Prop) (u9000_ : Value) (l0 : List Bool) (a1 : Int) (a2 : Int) (r : List Bool) (w0 w : World) (hB : Below w0.heap.size w0 w) (ho0 : Kd.R Kd.bool 4 w w0.heap.size P0_ u9000_ l0) (h : spec_l01Bits.f k l0 a1 a2 = some r) :
  Calls Try.prog 159 #[u9000_, .int .i64 a1, .int .i64 a2] w fun e w' => ∃ v0_ : Value, e = .returned (v0_) ∧ Kd.R Kd.bool 4 w' w0.heap.size (fun k_ => (P0_ k_ ∨ w.heap.size ≤ k_)) v0_ r ∧ Below w0.heap.size w0 w' ∧ Kept w w' (fun k_ => P0_ k_) := by
 have HO0 := Aside0.mk (show Kd.R Kd.bool 4 w w0.heap.size (fun k_ => (P0_ k_ ∨ w.heap.size ≤ k_)) u9000_ l0 from Kd.R_mono ho0 (fun k_ hk => (.inl hk)))
 have HK := Aside0.mk (Kept.refl w (fun k_ => P0_ k_))
 have HW0 := Aside0.mk hB.size
 have HB := Aside0.mk hB
 clear hB
 have H : (spec_l01Bits.l0 k l0 a2 (wrap64 (a1 - 1))) = some r := h
 clear h
 have H' := Aside0.mk H
 clear H
 go_enter Try.func159, Try.ntmps159
 go_wp2
 go_loopg [0, 7] k (fun kq v0 v7 w' => ∃ (x0_1 : List Bool) (x7_1 : Int), v7 = .int .i64 x7_1 ∧ Aside0 (spec_l01Bits.l0 kq x0_1 a2 x7_1 = some r) ∧ Aside0 (kq ≤ k) ∧ Aside0 (Kd.R Kd.bool 4 w' w0.heap.size (fun k_ => (P0_ k_ ∨ w.heap.size ≤ k_)) v0 x0_1) ∧ Aside0 (Kept w w' (fun k_ => P0_ k_)) ∧ Aside0 (Below w0.heap.size w0 w'))
 case atStart => exact ⟨(l0), (wrap64 (a1 - 1)), (by first | rfl | (simp; done) | (simp [*]; done)), H', ⟨Nat.le_refl _⟩, ⟨by (with_reducible repeat (first | apply Kd.R_alloc | apply Kd.R_drewN | apply Kd.R_drew)); exact HO0.out⟩, ⟨by repeat (first | (with_reducible first | exact HK.out | apply Kept.alloc | apply Kept.drewN | apply Kept.drew) | exact HK.out)⟩, ⟨by repeat (first | (with_reducible first | exact HB.out | apply below_alloc | apply pw_below_drewN | apply below_drew1) | exact HB.out)⟩⟩
 case round =>
  clear H'
  try clear c1
  try clear p2
  obtain ⟨x0_1, x7_1, rfl, HA, HK1, HO_0, HK, HB⟩ := hrel
  cases gk with
  | zero => exact absurd HA.out (by simp [spec_l01Bits.l0])
  | succ k1 =>
   have H := HA.out
   clear HA
   simp only [spec_l01Bits.l0] at H
   by_cases c4 : x7_1 ≥ 0
   ·rw [if_pos c4] at H
    have c4b0 : decide (0 ≤ x7_1) = true := decide_eq_true c4
    clear c4
    by_cases c5 : 0 ≤ x7_1
    ·rw [if_pos c5] at H
     have c5b0 := eq_true c5
     have c5b1 : decide (0 ≤ x7_1) = true := decide_eq_true c5
     clear c5
     obtain ⟨ji6, hji6⟩ : ∃ j_ : Int, (shr .i64 a2 x7_1) = j_ := ⟨_, rfl⟩
     replace H : (if x0_1.length < 140737488355328 then (spec_l01Bits.l0 k1 (x0_1 ++ [((Go.bits .and .i64 (ji6) 1) == 1)]) a2 (wrap64 (x7_1 - 1))) else (none)) = some r := by first | (rw [hji6] at H; exact H) | (simp only [hji6] at H ⊢; exact H)
     have hji6_ : (a2 / 2 ^ min x7_1.toNat 64) = ji6 := hji6
     have hji6z : x7_1 ≤ 64 → (a2 / 2 ^ x7_1.toNat) = ji6 := shr_small hji6
     by_cases c7 : x0_1.length < 140737488355328
     ·rw [if_pos c7] at H
      have LMc7 := Aside0.mk c7
      clear c7
      obtain ⟨y859, hy859⟩ : ∃ y_ : List Bool, y_ = (x0_1 ++ [((Go.bits .and .i64 (ji6) 1) == 1)]) := ⟨_, rfl⟩
      replace H : (spec_l01Bits.l0 k1 y859 a2 (wrap64 (x7_1 - 1))) = some r := by first | (rw [hy859]; with_reducible exact H) | (have H2_ := (Option.bind_some _ _).symm.trans H; rw [hy859]; with_reducible exact H2_) | (have H2_ := (Option.bind_some _ _).symm.trans H; with_reducible exact H2_) | with_reducible exact H | (rw [hy859]; exact H) | exact H
      have Ny859 := Aside0.mk hy859
      clear hy859
      have H' := Aside0.mk H
      clear H
      go_wp2_with (first | ((with_reducible refine gate_builtin (b := .append) (xs := #[.tmp 14, .tmp 20]) rfl ?_); at_builtin; refine Kd.R_append Kd.bool (w0 := w0) w0.heap.size rfl (.tmp 14) (.tmp 20) 156 4 (.bool false) 1 rfl Try.underlying156 info4 rfl (by decide) (by omega) u0 x0_1 ((Go.bits .and .i64 (ji6) 1) == 1) [.bool ((Go.bits .and .i64 (ji6) 1) == 1)] (fun k_ => (P0_ k_ ∨ w.heap.size ≤ k_)) (fun _ => False) rfl rfl ?aP (fun _ hk => hk.elim) ?aF ?aO ?aB ?aS ?aL ?_; (case aP => exact rfl); (case aB => exact (by repeat (first | (with_reducible first | exact HB.out | apply below_alloc | apply pw_below_drewN | apply below_drew1) | exact HB.out))); (case aF => exact (fun k_ hk => (.inr (Nat.le_trans (by first | exact HK.out.1 | exact (show Kept w _ (fun k_ => P0_ k_) from by repeat (first | (with_reducible first | exact HK.out | apply Kept.alloc | apply Kept.drewN | apply Kept.drew) | exact HK.out)).1) hk)))); (case aO => exact (by (with_reducible repeat (first | apply Kd.R_alloc | apply Kd.R_drewN | apply Kd.R_drew)); exact HO_0.out)); (case aS => exact (below_size (by repeat (first | (with_reducible first | exact HB.out | apply below_alloc | apply pw_below_drewN | apply below_drew1) | exact HB.out)))); (case aL => have := LMc7.out; omega); intro v860 w8 ho hb hg hat; rw [← Ny859.out] at ho; have n0_ := Aside0.mk (hb); have n1_ := Aside0.mk (Kept.of_grown (S := (fun k_ => P0_ k_)) hg (by repeat (first | (with_reducible first | exact HK.out | apply Kept.alloc | apply Kept.drewN | apply Kept.drew) | exact HK.out)) (fun k_ e_ => (HO_0.out.1 k_ e_))); have n2_ := Aside0.mk (ho); clear HB; clear HK; clear HO_0; have HB := n0_; have HK := n1_; have HO861 := n2_; clear n0_ n1_ n2_; clear ho hb hg hat))
      go_roundg k1
      case measure => have := HK1.out; omega
      case rel => exact ⟨(y859), (wrap64 (x7_1 - 1)), (by first | rfl | (simp; done) | (simp [*]; done)), H', ⟨by have := HK1.out; omega⟩, ⟨by (with_reducible repeat (first | apply Kd.R_alloc | apply Kd.R_drewN | apply Kd.R_drew)); exact HO861.out⟩, ⟨by repeat (first | (with_reducible first | exact HK.out | apply Kept.alloc | apply Kept.drewN | apply Kept.drew) | exact HK.out)⟩, ⟨by repeat (first | (with_reducible first | exact HB.out | apply below_alloc | apply pw_below_drewN | apply below_drew1) | exact HB.out)⟩⟩
     ·rw [if_neg c7] at H
      exact absurd H (by simp)
    ·rw [if_neg c5] at H
     exact absurd H (by simp)
   ·rw [if_neg c4] at H
    have c4b0 : decide (0 ≤ x7_1) = false := decide_eq_false c4
    clear c4
    obtain rfl := Option.some.inj H
    go_wp2
    go_ret
    exact ⟨_, by first | rfl | (simp [errW_none, errW_some] <;> rfl) | (simp [*, errW_none, errW_some] <;> rfl), by (with_reducible repeat (first | apply Kd.R_alloc | apply Kd.R_drewN | apply Kd.R_drew)); exact HO_0.out, by repeat (first | (with_reducible first | exact HB.out | apply below_alloc | apply pw_below_drewN | apply below_drew1) | exact HB.out), by repeat (first | (with_reducible first | exact HK.out | apply Kept.alloc | apply Kept.drewN | apply Kept.drew) | exact HK.out)⟩
theorem bitsN_succ (n : Nat) (v : Int) : bitsN (n + 1) v = (v / 2 ^ n % 2 == 1) :: bitsN n v := by
 unfold bitsN
 rw [List.range_succ_eq_map, List.map_cons, List.map_map]
 congr 1
 apply List.map_congr_left
 intro k hk
 have : n - (k + 1) = n - 1 - k := by omega
 simp [this]
theorem shr_and1 (v : Int) (n : Nat) (hn : n ≤ 16) (h0 : 0 ≤ v) (h1 : v ≤ 65536) : Go.bits .and .i64 (shr .i64 v (n : Int)) 1 = v / 2 ^ n % 2 := by
 have e3 : shr .i64 v (n : Int) = v / 2 ^ n := by
  unfold shr
  rw [Int.toNat_natCast, Nat.min_eq_left (by show n ≤ 64; omega)]
 rw [e3]
 have h0 : 0 ≤ v / 2 ^ n := Int.ediv_nonneg h0 (by have := pow_one n; omega)
 have h9 : v / 2 ^ n ≤ v := Int.ediv_le_self _ (by omega)
 have := bits_mask .i64 62 (by decide) (fun n h0 h1 => by rw [IntKind.wrap_i64]; omega) 1 (by decide) (v / 2 ^ n) h0 (by omega)
 simpa using this
theorem spec_l01Bits.l0_ev (v : Int) (h0 : 0 ≤ v) (h1 : v ≤ 65536) : ∀ (n : Nat) (x0 : List Bool), n ≤ 16 → x0.length + n ≤ 140737488300100 → Ev (fun k => spec_l01Bits.l0 k x0 v ((n : Int) - 1)) (x0 ++ bitsN n v) := by
 intro n
 induction n with
 | zero =>
  intro x0 _ _
  exact Ev.step (fun _ => by rw [spec_l01Bits.l0]) (Ev.ng (by omega) (Ev.eq (Ev.now _) (by simp [bitsN])))
 | succ n ih =>
  intro x0 hn hx
  refine Ev.step (fun _ => by rw [spec_l01Bits.l0]) (Ev.ip (by omega) (Ev.ip (by omega) (Ev.ip (by omega) ?_)))
  rw [show ((n + 1 : Nat) : Int) - 1 = (n : Int) by omega, wrap_in ((n : Int) - 1) (by omega) (by omega), shr_and1 v n (by omega) h0 h1]
  refine Ev.eq (ih _ (by omega) (by simp; omega)) ?_
  rw [bitsN_succ, List.append_assoc, List.singleton_append]
theorem spec_l01Bits.ev (x0 : List Bool) (n v : Int) (h0 : 0 ≤ v) (h1 : v ≤ 65536) (h2 : 0 ≤ n) (h3 : n ≤ 16) (hx : x0.length ≤ 140737488300000) : Ev (fun k => spec_l01Bits.f k x0 n v) (x0 ++ bitsN n.toNat v) := by
 have := spec_l01Bits.l0_ev v h0 h1 n.toNat x0 (by omega) (by omega)
 rw [Int.toNat_of_nonneg h2] at this
 unfold spec_l01Bits.f
 rw [wrap_in (n - 1) (by omega) (by omega)]
 exact this
end Go.Proofs.Ytcjjmfpkhhdmlaa.G

