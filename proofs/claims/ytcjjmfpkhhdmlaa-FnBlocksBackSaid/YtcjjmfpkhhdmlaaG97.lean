-- Written by gp.py (a program of this session's, over the kit's print). Not trusted: Lean checks it.
import Derived.Test.YtcjjmfpkhhdmlaaG0h
import Derived.Test.YtcjjmfpkhhdmlaaG150
import Derived.Test.YtcjjmfpkhhdmlaaG84
import Derived.Test.YtcjjmfpkhhdmlaaG85
import Derived.Test.YtcjjmfpkhhdmlaaG86
import Derived.Test.YtcjjmfpkhhdmlaaGLib
namespace Go.Proofs.Ytcjjmfpkhhdmlaa.G
open Go.RowKit Go.Proofs.YtcjjmfpkhhdmlaaW.PrintWords Go.Proofs.YtcjjmfpkhhdmlaaW.PrintLast Go.Proofs.YtcjjmfpkhhdmlaaW.PrintMore
attribute [local go_sem] max2_int min2_int max_two min_two max_three min_three max_four min_four   -- for this text's walks alone
set_option linter.unusedVariables false
set_option linter.unusedSimpArgs false

/-! ### spec_l16Draw: function 97 -/
def spec_l16Draw.f (k : Nat) (s0_0 : List Int) (s0_1 : Int) (s0_2 : Int) (a1 : Int) : Option (List Int × Int × Int × Int × Int × Int × Int) := (spec_l01Cur_pick.f s0_0 s0_1 s0_2 14).bind fun bt308 => ((spec_l01Cur_pick.f s0_0 bt308.2.1 bt308.2.2 14).bind fun bt311 => ((spec_l16DrawPlane.f k s0_0 bt311.2.1 bt311.2.2 (wrap64 (1 + bt308.1)) (wrap64 (1 + bt311.1)) 14).bind fun bt314 => ((spec_l16DrawSide.f k s0_0 bt314.2.1 bt314.2.2 (wrap64 (1 + bt308.1)) a1).bind fun bt319 => ((spec_l16DrawSide.f k s0_0 bt319.2.1 bt319.2.2 (wrap64 (1 + bt311.1)) a1).bind fun bt322 => (some (bt314.1, wrap64 (1 + bt308.1), wrap64 (1 + bt311.1), bt319.1, bt322.1, bt322.2.1, bt322.2.2))))))
theorem spec_l16Draw.mono : ∀ a0 a1 a2 a3 k, LeO (spec_l16Draw.f k a0 a1 a2 a3) (spec_l16Draw.f (k + 1) a0 a1 a2 a3) := by
  intro a0 a1 a2 a3 k
  unfold spec_l16Draw.f
  repeat' first
      | (with_reducible exact spec_l16DrawPlane.mono _ _ _ _ _ _ _)
      | (with_reducible exact spec_l16DrawSide.mono _ _ _ _ _ _)
      | (with_reducible exact LeO.refl _)
      | (with_reducible exact LeO.none _)
      | (with_reducible refine LeO.ite ?_ ?_)
      | (with_reducible refine LeO.bind ?_ (fun _ => ?_))
      | exact spec_l16DrawPlane.mono _ _ _ _ _ _ _
      | exact spec_l16DrawSide.mono _ _ _ _ _ _
      | exact LeO.none _
      | refine LeO.ite ?_ ?_
      | refine LeO.bind ?_ (fun _ => ?_)
set_option maxHeartbeats 8000000 in
set_option maxRecDepth 100000 in
theorem spec_l16Draw.calls (k : Nat) (g : Nat) (s0_0 : List Int) (s0_1 : Int) (s0_2 : Int) (a1 : Int) (r1 : List Int) (r2 : Int) (r3 : Int) (r4 : Int) (r5 : Int) (r6 : Int) (r7 : Int) (w0 w : World) (hI : IsS150 w0 w g s0_0 s0_1 s0_2) (hB : Below w0.heap.size w0 w) (h : spec_l16Draw.f k s0_0 s0_1 s0_2 a1 = some (r1, r2, r3, r4, r5, r6, r7)) :
    Calls Try.prog 97 #[.pointer (some ⟨g, 0, none⟩), .int .i64 a1] w fun e w' => ∃ v0_ : Value, e = .returned (.tuple #[v0_, .int .i64 r2, .int .i64 r3, .int .i64 r4, .int .i64 r5]) ∧ Kd.R (Kd.int .i64) 3 w' w.heap.size (fun _ => True) v0_ r1 ∧ IsS150 w0 w' g s0_0 r6 r7 ∧ Below w0.heap.size w0 w' ∧ KeepBut w w' g none := by
  have HI0 := Aside0.mk hI
  have HK := Aside0.mk (KeepBut.refl w g none)
  have HL := Aside0.mk hB.size
  clear hI
  have HW0 := Aside0.mk hB.size
  have HB := Aside0.mk hB
  clear hB
  have H : ((spec_l01Cur_pick.f s0_0 s0_1 s0_2 14).bind fun bt308 => ((spec_l01Cur_pick.f s0_0 bt308.2.1 bt308.2.2 14).bind fun bt311 => ((spec_l16DrawPlane.f k s0_0 bt311.2.1 bt311.2.2 (wrap64 (1 + bt308.1)) (wrap64 (1 + bt311.1)) 14).bind fun bt314 => ((spec_l16DrawSide.f k s0_0 bt314.2.1 bt314.2.2 (wrap64 (1 + bt308.1)) a1).bind fun bt319 => ((spec_l16DrawSide.f k s0_0 bt319.2.1 bt319.2.2 (wrap64 (1 + bt311.1)) a1).bind fun bt322 => (some (bt314.1, wrap64 (1 + bt308.1), wrap64 (1 + bt311.1), bt319.1, bt322.1, bt322.2.1, bt322.2.2))))))) = some (r1, r2, r3, r4, r5, r6, r7) := h
  clear h
  replace H := Option.bind_eq_some_iff.mp H
  obtain ⟨⟨t308, t309, t310⟩, A30, H⟩ := H
  replace H : ((spec_l01Cur_pick.f s0_0 t309 t310 14).bind fun bt311 => ((spec_l16DrawPlane.f k s0_0 bt311.2.1 bt311.2.2 (wrap64 (1 + t308)) (wrap64 (1 + bt311.1)) 14).bind fun bt314 => ((spec_l16DrawSide.f k s0_0 bt314.2.1 bt314.2.2 (wrap64 (1 + t308)) a1).bind fun bt319 => ((spec_l16DrawSide.f k s0_0 bt319.2.1 bt319.2.2 (wrap64 (1 + bt311.1)) a1).bind fun bt322 => (some (bt314.1, wrap64 (1 + t308), wrap64 (1 + bt311.1), bt319.1, bt322.1, bt322.2.1, bt322.2.2)))))) = some (r1, r2, r3, r4, r5, r6, r7) := H
  have A3 := Aside0.mk A30
  clear A30
  replace H := Option.bind_eq_some_iff.mp H
  obtain ⟨⟨t311, t312, t313⟩, A40, H⟩ := H
  replace H : ((spec_l16DrawPlane.f k s0_0 t312 t313 (wrap64 (1 + t308)) (wrap64 (1 + t311)) 14).bind fun bt314 => ((spec_l16DrawSide.f k s0_0 bt314.2.1 bt314.2.2 (wrap64 (1 + t308)) a1).bind fun bt319 => ((spec_l16DrawSide.f k s0_0 bt319.2.1 bt319.2.2 (wrap64 (1 + t311)) a1).bind fun bt322 => (some (bt314.1, wrap64 (1 + t308), wrap64 (1 + t311), bt319.1, bt322.1, bt322.2.1, bt322.2.2))))) = some (r1, r2, r3, r4, r5, r6, r7) := H
  have A4 := Aside0.mk A40
  clear A40
  replace H := Option.bind_eq_some_iff.mp H
  obtain ⟨⟨t314, t317, t318⟩, A50, H⟩ := H
  replace H : ((spec_l16DrawSide.f k s0_0 t317 t318 (wrap64 (1 + t308)) a1).bind fun bt319 => ((spec_l16DrawSide.f k s0_0 bt319.2.1 bt319.2.2 (wrap64 (1 + t311)) a1).bind fun bt322 => (some (t314, wrap64 (1 + t308), wrap64 (1 + t311), bt319.1, bt322.1, bt322.2.1, bt322.2.2)))) = some (r1, r2, r3, r4, r5, r6, r7) := H
  have A5 := Aside0.mk A50
  clear A50
  replace H := Option.bind_eq_some_iff.mp H
  obtain ⟨⟨t319, t320, t321⟩, A60, H⟩ := H
  replace H : ((spec_l16DrawSide.f k s0_0 t320 t321 (wrap64 (1 + t311)) a1).bind fun bt322 => (some (t314, wrap64 (1 + t308), wrap64 (1 + t311), t319, bt322.1, bt322.2.1, bt322.2.2))) = some (r1, r2, r3, r4, r5, r6, r7) := H
  have A6 := Aside0.mk A60
  clear A60
  replace H := Option.bind_eq_some_iff.mp H
  obtain ⟨⟨t322, t323, t324⟩, A70, H⟩ := H
  replace H : (some (t314, wrap64 (1 + t308), wrap64 (1 + t311), t319, t322, t323, t324)) = some (r1, r2, r3, r4, r5, r6, r7) := H
  have A7 := Aside0.mk A70
  clear A70
  simp only [Option.some.injEq, Prod.mk.injEq] at H
  obtain ⟨rfl, rfl, rfl, rfl, rfl, rfl, rfl⟩ := H
  go_enter Try.func97, Try.ntmps97
  go_wp2_with (first | ((with_reducible refine gate_callee (f := 85) rfl ?_); refine goesL_ (some 14) rfl rfl Try.func85 (by kernel_rfl) rfl #[.pointer (some ⟨g, 0, none⟩), .int .i64 14] rfl (by (try simp only [List.map_toArray, List.map_cons, List.map_nil]); first | done | rfl | (simp only [List.length_drop, List.length_take]; rfl)) ?_; (with_reducible refine (spec_l01Cur_pick.calls g s0_0 s0_1 s0_2 14 t308 t309 t310 w0 _ ?side1 ?side2 A3.out).mono ?_); (case side1 => repeat (first | (with_reducible first | exact HI0.out | apply IsS150.alloc | apply IsS150.drewN | apply IsS150.drew | apply IsS150.set_1 | apply IsS150.set_2) | exact HI0.out)); (case side2 => repeat (first | (with_reducible first | exact HB.out | apply below_alloc | apply pw_below_drewN | apply below_drew1 | refine below_set ?_ (IsS150.ge HI0.out)) | exact HB.out)); rintro e w8 ⟨rfl, hi, hb, hk⟩; refine ⟨_, rfl, ?_⟩; have n0_ := Aside0.mk (KeepBut.trans (by repeat (first | (with_reducible first | exact HK.out | apply KeepBut.set_ | apply keep_drewN | apply keep_drew | apply keep_alloc) | exact HK.out)) hk (.inl rfl)); have n1_ := Aside0.mk (hb); have n2_ := Aside0.mk (hi); clear HK; clear HB; clear HI0; have HK := n0_; have HB := n1_; have HI0 := n2_; clear n0_ n1_ n2_; (try clear hb); (try clear hb2); (try clear hk); (try clear hi)) | ((with_reducible refine gate_callee (f := 85) rfl ?_); refine goesL_ (some 17) rfl rfl Try.func85 (by kernel_rfl) rfl #[.pointer (some ⟨g, 0, none⟩), .int .i64 14] rfl (by (try simp only [List.map_toArray, List.map_cons, List.map_nil]); first | done | rfl | (simp only [List.length_drop, List.length_take]; rfl)) ?_; (with_reducible refine (spec_l01Cur_pick.calls g s0_0 t309 t310 14 t311 t312 t313 w0 _ ?side1 ?side2 A4.out).mono ?_); (case side1 => repeat (first | (with_reducible first | exact HI0.out | apply IsS150.alloc | apply IsS150.drewN | apply IsS150.drew | apply IsS150.set_1 | apply IsS150.set_2) | exact HI0.out)); (case side2 => repeat (first | (with_reducible first | exact HB.out | apply below_alloc | apply pw_below_drewN | apply below_drew1 | refine below_set ?_ (IsS150.ge HI0.out)) | exact HB.out)); rintro e w9 ⟨rfl, hi, hb, hk⟩; refine ⟨_, rfl, ?_⟩; have n0_ := Aside0.mk (KeepBut.trans (by repeat (first | (with_reducible first | exact HK.out | apply KeepBut.set_ | apply keep_drewN | apply keep_drew | apply keep_alloc) | exact HK.out)) hk (.inl rfl)); have n1_ := Aside0.mk (hb); have n2_ := Aside0.mk (hi); clear HK; clear HB; clear HI0; have HK := n0_; have HB := n1_; have HI0 := n2_; clear n0_ n1_ n2_; (try clear hb); (try clear hb2); (try clear hk); (try clear hi)) | ((with_reducible refine gate_callee (f := 86) rfl ?_); refine goesL_ (some 22) rfl rfl Try.func86 (by kernel_rfl) rfl #[.pointer (some ⟨g, 0, none⟩), .int .i64 (wrap64 (1 + t308)), .int .i64 (wrap64 (1 + t311)), .int .i64 14] rfl (by (try simp only [List.map_toArray, List.map_cons, List.map_nil]); first | done | rfl | (simp only [List.length_drop, List.length_take]; rfl)) ?_; (with_reducible refine (spec_l16DrawPlane.calls k g s0_0 t312 t313 (wrap64 (1 + t308)) (wrap64 (1 + t311)) 14 t314 t317 t318 w0 _ ?side1 ?side2 A5.out).mono ?_); (case side1 => repeat (first | (with_reducible first | exact HI0.out | apply IsS150.alloc | apply IsS150.drewN | apply IsS150.drew | apply IsS150.set_1 | apply IsS150.set_2) | exact HI0.out)); (case side2 => repeat (first | (with_reducible first | exact HB.out | apply below_alloc | apply pw_below_drewN | apply below_drew1 | refine below_set ?_ (IsS150.ge HI0.out)) | exact HB.out)); rintro e w10 ⟨v315, rfl, ho0, hi, hb, hk⟩; refine ⟨_, rfl, ?_⟩; have n0_ := Aside0.mk (Kd.R_lower ho0 (keep_size (w := w) (g := g) (row := none) (by repeat (first | (with_reducible first | exact HK.out | apply KeepBut.set_ | apply keep_drewN | apply keep_drew | apply keep_alloc) | exact HK.out)))); have n1_ := Aside0.mk (KeepBut.trans (by repeat (first | (with_reducible first | exact HK.out | apply KeepBut.set_ | apply keep_drewN | apply keep_drew | apply keep_alloc) | exact HK.out)) hk (.inl rfl)); have n2_ := Aside0.mk (hb); have n3_ := Aside0.mk (hi); clear HK; clear HB; clear HI0; have HO316 := n0_; have HK := n1_; have HB := n2_; have HI0 := n3_; clear n0_ n1_ n2_ n3_; (try clear hb); (try clear hb2); (try clear hk); (try clear hi); (try clear ho0)) | ((with_reducible refine gate_callee (f := 150) rfl ?_); refine goesL_ (some 26) rfl rfl Try.func150 (by kernel_rfl) rfl #[.pointer (some ⟨g, 0, none⟩), .int .i64 (wrap64 (1 + t308)), .int .i64 a1] rfl (by (try simp only [List.map_toArray, List.map_cons, List.map_nil]); first | done | rfl | (simp only [List.length_drop, List.length_take]; rfl)) ?_; (with_reducible refine (spec_l16DrawSide.calls k g s0_0 t317 t318 (wrap64 (1 + t308)) a1 t319 t320 t321 w0 _ ?side1 ?side2 A6.out).mono ?_); (case side1 => repeat (first | (with_reducible first | exact HI0.out | apply IsS150.alloc | apply IsS150.drewN | apply IsS150.drew | apply IsS150.set_1 | apply IsS150.set_2) | exact HI0.out)); (case side2 => repeat (first | (with_reducible first | exact HB.out | apply below_alloc | apply pw_below_drewN | apply below_drew1 | refine below_set ?_ (IsS150.ge HI0.out)) | exact HB.out)); rintro e w11 ⟨rfl, hi, hb, hk⟩; refine ⟨_, rfl, ?_⟩; have n0_ := Aside0.mk (Kd.R_mono (Kd.R_keep (IsS150.apart (show IsS150 w0 _ g s0_0 t317 t318 from by repeat (first | (with_reducible first | exact HI0.out | apply IsS150.alloc | apply IsS150.drewN | apply IsS150.drew | apply IsS150.set_1 | apply IsS150.set_2) | exact HI0.out)) (by (with_reducible repeat (first | apply Kd.R_alloc | apply Kd.R_drewN | apply Kd.R_drew)); exact HO316.out) (by decide)) hk (fun _ h => h.2)) (fun _ h => h.1)); have n1_ := Aside0.mk (KeepBut.trans (by repeat (first | (with_reducible first | exact HK.out | apply KeepBut.set_ | apply keep_drewN | apply keep_drew | apply keep_alloc) | exact HK.out)) hk (.inl rfl)); have n2_ := Aside0.mk (hb); have n3_ := Aside0.mk (hi); clear HO316; clear HK; clear HB; clear HI0; have HO316 := n0_; have HK := n1_; have HB := n2_; have HI0 := n3_; clear n0_ n1_ n2_ n3_; (try clear hb); (try clear hb2); (try clear hk); (try clear hi)) | ((with_reducible refine gate_callee (f := 150) rfl ?_); refine goesL_ (some 34) rfl rfl Try.func150 (by kernel_rfl) rfl #[.pointer (some ⟨g, 0, none⟩), .int .i64 (wrap64 (1 + t311)), .int .i64 a1] rfl (by (try simp only [List.map_toArray, List.map_cons, List.map_nil]); first | done | rfl | (simp only [List.length_drop, List.length_take]; rfl)) ?_; (with_reducible refine (spec_l16DrawSide.calls k g s0_0 t320 t321 (wrap64 (1 + t311)) a1 t322 t323 t324 w0 _ ?side1 ?side2 A7.out).mono ?_); (case side1 => repeat (first | (with_reducible first | exact HI0.out | apply IsS150.alloc | apply IsS150.drewN | apply IsS150.drew | apply IsS150.set_1 | apply IsS150.set_2) | exact HI0.out)); (case side2 => repeat (first | (with_reducible first | exact HB.out | apply below_alloc | apply pw_below_drewN | apply below_drew1 | refine below_set ?_ (IsS150.ge HI0.out)) | exact HB.out)); rintro e w12 ⟨rfl, hi, hb, hk⟩; refine ⟨_, rfl, ?_⟩; have n0_ := Aside0.mk (Kd.R_mono (Kd.R_keep (IsS150.apart (show IsS150 w0 _ g s0_0 t320 t321 from by repeat (first | (with_reducible first | exact HI0.out | apply IsS150.alloc | apply IsS150.drewN | apply IsS150.drew | apply IsS150.set_1 | apply IsS150.set_2) | exact HI0.out)) (by (with_reducible repeat (first | apply Kd.R_alloc | apply Kd.R_drewN | apply Kd.R_drew)); exact HO316.out) (by decide)) hk (fun _ h => h.2)) (fun _ h => h.1)); have n1_ := Aside0.mk (KeepBut.trans (by repeat (first | (with_reducible first | exact HK.out | apply KeepBut.set_ | apply keep_drewN | apply keep_drew | apply keep_alloc) | exact HK.out)) hk (.inl rfl)); have n2_ := Aside0.mk (hb); have n3_ := Aside0.mk (hi); clear HO316; clear HK; clear HB; clear HI0; have HO316 := n0_; have HK := n1_; have HB := n2_; have HI0 := n3_; clear n0_ n1_ n2_ n3_; (try clear hb); (try clear hb2); (try clear hk); (try clear hi)))
  refine bodyPost_ret (results_list (rs := [.tmp 4, .tmp 5, .tmp 6, .tmp 7, .tmp 8]) rfl (by simp) (.tmp (.tmp (.tmp (.tmp (.tmp .nil)))))) rfl ?_
  exact ⟨_, by first | rfl | (simp [errW_none, errW_some] <;> rfl) | (simp [*, errW_none, errW_some] <;> rfl), by (with_reducible repeat (first | apply Kd.R_alloc | apply Kd.R_drewN | apply Kd.R_drew)); exact HO316.out, by repeat (first | (with_reducible first | exact HI0.out | apply IsS150.alloc | apply IsS150.drewN | apply IsS150.drew | apply IsS150.set_1 | apply IsS150.set_2) | exact HI0.out), by repeat (first | (with_reducible first | exact HB.out | apply below_alloc | apply pw_below_drewN | apply below_drew1 | refine below_set ?_ (IsS150.ge HI0.out)) | exact HB.out), by repeat (first | (with_reducible first | exact HK.out | apply KeepBut.set_ | apply keep_drewN | apply keep_drew | apply keep_alloc) | exact HK.out)⟩

theorem spec_l16Draw.ev (c : List Int) (hc : ∀ x ∈ c, 0 ≤ x ∧ x ≤ 255) (hl : c.length ≤ 1048576) (x1 a s : Int) (ha : 0 ≤ a) (ha2 : a ≤ 10000) (hs0 : 0 ≤ s) (hs1 : s ≤ 65536) :
    ∃ r, Ev (fun k => spec_l16Draw.f k c a s x1) r ∧ r.1.length ≤ 100001 := by
  obtain ⟨x, a1, s1, e1, u1, u2, u3, u4, u5, u6⟩ := spec_l01Cur_pick.val c hc hl a s 14 ha (by omega) hs0 hs1
  obtain ⟨y, a2, s2, e2, v1, v2, v3, v4, v5, v6⟩ := spec_l01Cur_pick.val c hc hl a1 s1 14 (by omega) (by omega) u5 u6
  have k1 : wrap64 (1 + x) = 1 + x := wrap_in (1 + x) (by omega) (by omega)
  have k2 : wrap64 (1 + y) = 1 + y := wrap_in (1 + y) (by omega) (by omega)
  obtain ⟨r, hr, r1, r2, r3, r4, r5⟩ := spec_l16DrawPlane.ev c hc hl (1 + x) (1 + y) 14 (by omega) (by omega) (by omega) (by omega) a2 s2 (by omega) (by omega) v5 v6
  obtain ⟨p, hp, p2, p3, p4, p5⟩ := spec_l16DrawSide.ev c hc hl (1 + x) x1 r.2.1 r.2.2 r2 (by omega) r4 r5
  obtain ⟨q, hq, q2, q3, q4, q5⟩ := spec_l16DrawSide.ev c hc hl (1 + y) x1 p.2.1 p.2.2 p2 (by omega) p4 p5
  refine ⟨(r.1, 1 + x, 1 + y, p.1, q.1, q.2.1, q.2.2), ?_, r1⟩
  unfold spec_l16Draw.f
  refine Ev.bind (Ev.c e1) (Ev.bind (Ev.c e2) ?_)
  simp only
  rw [k1, k2]
  exact Ev.bind hr (Ev.bind hp (Ev.bind hq (Ev.now _)))

end Go.Proofs.Ytcjjmfpkhhdmlaa.G
