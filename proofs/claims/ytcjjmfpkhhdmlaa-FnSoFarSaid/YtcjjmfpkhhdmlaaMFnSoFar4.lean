import Derived.Test.YtcjjmfpkhhdmlaaMFnSoFar3
set_option linter.unusedVariables false
set_option linter.unusedSimpArgs false
namespace Go.Proofs.Ytcjjmfpkhhdmlaa.G
open Go.RowKit Go.Proofs.YtcjjmfpkhhdmlaaW.PrintWords Go.Proofs.YtcjjmfpkhhdmlaaW.PrintLast Go.Proofs.YtcjjmfpkhhdmlaaW.PrintMore
attribute [local go_sem] max2_int min2_int max_two min_two max_three min_three max_four min_four   -- for this text's walks alone
def spec_l02Spoil.f (s0_0 : List Int) (s0_1 : Int) (s0_2 : Int) (l1 : List Int) : Option (List Int × Int × Int) := if (l1.length : Int) = 0 then (some (l1, s0_1, s0_2)) else ((spec_l01Cur_pick.f s0_0 s0_1 s0_2 (l1.length : Int)).bind fun bt1316 => ((some (([] : List Int) : List Int)).bind fun y1319 => (if 0 ≤ bt1316.1 then (if bt1316.1 ≤ (l1.length : Int) then ((some (l1.take (bt1316.1 : Int).toNat : List Int)).bind fun y1322 => (if y1319.length + y1322.length < 140737488355328 then ((some (y1319 ++ y1322 : List Int)).bind fun y1326 => ((spec_l01Cur_pick.f s0_0 bt1316.2.1 bt1316.2.2 4).bind fun bt1329 => (if bt1329.1 = 0 then (if 0 ≤ (wrap64 (bt1316.1 + 1)) then (if (wrap64 (bt1316.1 + 1)) ≤ (l1.length : Int) then ((some (l1.drop ((wrap64 (bt1316.1 + 1)) : Int).toNat : List Int)).bind fun y1332 => (if y1326.length + y1332.length < 140737488355328 then (some ((y1326 ++ y1332), bt1329.2.1, bt1329.2.2)) else (none))) else (none)) else (none)) else (if bt1329.1 = 1 then ((spec_l01Cur_pick.f s0_0 bt1329.2.1 bt1329.2.2 256).bind fun bt1339 => ((some (([255, 0, 254, 240, (bt1339.1) % 256] : List Int) : List Int)).bind fun y1342 => ((spec_l01Cur_pick.f s0_0 bt1339.2.1 bt1339.2.2 5).bind fun bt1345 => (if 0 ≤ bt1345.1 then (if bt1345.1 < (y1342.length : Int) then (if y1326.length < 140737488355328 then ((some (y1326 ++ [rd y1342 bt1345.1] : List Int)).bind fun y1349 => ((some (l1.drop (bt1316.1 : Int).toNat : List Int)).bind fun y1352 => (if y1349.length + y1352.length < 140737488355328 then (some ((y1349 ++ y1352), bt1345.2.1, bt1345.2.2)) else (none)))) else (none)) else (none)) else (none))))) else (if bt1329.1 = 2 then ((spec_l01Cur_pick.f s0_0 bt1329.2.1 bt1329.2.2 256).bind fun bt1359 => ((some (([255, 0, 254, 248, (bt1359.1) % 256] : List Int) : List Int)).bind fun y1362 => ((spec_l01Cur_pick.f s0_0 bt1359.2.1 bt1359.2.2 5).bind fun bt1365 => (if 0 ≤ bt1365.1 then (if bt1365.1 < (y1362.length : Int) then (if y1326.length < 140737488355328 then ((some (y1326 ++ [rd y1362 bt1365.1] : List Int)).bind fun y1369 => (if 0 ≤ (wrap64 (bt1316.1 + 1)) then (if (wrap64 (bt1316.1 + 1)) ≤ (l1.length : Int) then ((some (l1.drop ((wrap64 (bt1316.1 + 1)) : Int).toNat : List Int)).bind fun y1372 => (if y1369.length + y1372.length < 140737488355328 then (some ((y1369 ++ y1372), bt1365.2.1, bt1365.2.2)) else (none))) else (none)) else (none))) else (none)) else (none)) else (none))))) else (some (y1326, bt1329.2.1, bt1329.2.2))))))) else (none))) else (none)) else (none))))
set_option maxHeartbeats 8000000 in
set_option maxRecDepth 100000 in
theorem spec_l02Spoil.calls (g : Nat) (s0_0 : List Int) (s0_1 : Int) (s0_2 : Int) (P1_ : Nat → Prop) (u9000_ : Value) (l1 : List Int) (r1 : List Int) (r2 : Int) (r3 : Int) (w0 w : World) (hI : IsS150 w0 w g s0_0 s0_1 s0_2) (hB : Below w0.heap.size w0 w) (ho1 : Kd.R (Kd.int .u8) 5 w w0.heap.size P1_ u9000_ l1) (h : spec_l02Spoil.f s0_0 s0_1 s0_2 l1 = some (r1, r2, r3)) :
  Calls Try.prog 145 #[.pointer (some ⟨g, 0, none⟩), u9000_] w fun e w' => ∃ v0_ : Value, e = .returned (v0_) ∧ Kd.R (Kd.int .u8) 5 w' w0.heap.size (fun k_ => (P1_ k_ ∨ w.heap.size ≤ k_)) v0_ r1 ∧ IsS150 w0 w' g s0_0 r2 r3 ∧ Below w0.heap.size w0 w' ∧ Kept w w' (fun k_ => (P1_ k_) ∨ k_ = g) := by
 have HO1 := zA (show Kd.R (Kd.int .u8) 5 w w0.heap.size (fun k_ => (P1_ k_ ∨ w.heap.size ≤ k_)) u9000_ l1 from zP ho1 (fun k_ hk => (.inl hk)))
 have HI0 := zA hI
 have HL := zA hB.size
 clear hI
 have HK := zA (Kept.refl w (fun k_ => (P1_ k_) ∨ k_ = g))
 have HW0 := zA hB.size
 have HB := zA hB
 clear hB
 have H : (if (l1.length : Int) = 0 then (some (l1, s0_1, s0_2)) else ((spec_l01Cur_pick.f s0_0 s0_1 s0_2 (l1.length : Int)).bind fun bt1316 => ((some (([] : List Int) : List Int)).bind fun y1319 => (if 0 ≤ bt1316.1 then (if bt1316.1 ≤ (l1.length : Int) then ((some (l1.take (bt1316.1 : Int).toNat : List Int)).bind fun y1322 => (if y1319.length + y1322.length < 140737488355328 then ((some (y1319 ++ y1322 : List Int)).bind fun y1326 => ((spec_l01Cur_pick.f s0_0 bt1316.2.1 bt1316.2.2 4).bind fun bt1329 => (if bt1329.1 = 0 then (if 0 ≤ (wrap64 (bt1316.1 + 1)) then (if (wrap64 (bt1316.1 + 1)) ≤ (l1.length : Int) then ((some (l1.drop ((wrap64 (bt1316.1 + 1)) : Int).toNat : List Int)).bind fun y1332 => (if y1326.length + y1332.length < 140737488355328 then (some ((y1326 ++ y1332), bt1329.2.1, bt1329.2.2)) else (none))) else (none)) else (none)) else (if bt1329.1 = 1 then ((spec_l01Cur_pick.f s0_0 bt1329.2.1 bt1329.2.2 256).bind fun bt1339 => ((some (([255, 0, 254, 240, (bt1339.1) % 256] : List Int) : List Int)).bind fun y1342 => ((spec_l01Cur_pick.f s0_0 bt1339.2.1 bt1339.2.2 5).bind fun bt1345 => (if 0 ≤ bt1345.1 then (if bt1345.1 < (y1342.length : Int) then (if y1326.length < 140737488355328 then ((some (y1326 ++ [rd y1342 bt1345.1] : List Int)).bind fun y1349 => ((some (l1.drop (bt1316.1 : Int).toNat : List Int)).bind fun y1352 => (if y1349.length + y1352.length < 140737488355328 then (some ((y1349 ++ y1352), bt1345.2.1, bt1345.2.2)) else (none)))) else (none)) else (none)) else (none))))) else (if bt1329.1 = 2 then ((spec_l01Cur_pick.f s0_0 bt1329.2.1 bt1329.2.2 256).bind fun bt1359 => ((some (([255, 0, 254, 248, (bt1359.1) % 256] : List Int) : List Int)).bind fun y1362 => ((spec_l01Cur_pick.f s0_0 bt1359.2.1 bt1359.2.2 5).bind fun bt1365 => (if 0 ≤ bt1365.1 then (if bt1365.1 < (y1362.length : Int) then (if y1326.length < 140737488355328 then ((some (y1326 ++ [rd y1362 bt1365.1] : List Int)).bind fun y1369 => (if 0 ≤ (wrap64 (bt1316.1 + 1)) then (if (wrap64 (bt1316.1 + 1)) ≤ (l1.length : Int) then ((some (l1.drop ((wrap64 (bt1316.1 + 1)) : Int).toNat : List Int)).bind fun y1372 => (if y1369.length + y1372.length < 140737488355328 then (some ((y1369 ++ y1372), bt1365.2.1, bt1365.2.2)) else (none))) else (none)) else (none))) else (none)) else (none)) else (none))))) else (some (y1326, bt1329.2.1, bt1329.2.2))))))) else (none))) else (none)) else (none))))) = some (r1, r2, r3) := h
 clear h
 by_cases c3 : (l1.length : Int) = 0
 ·rw [if_pos c3] at H
  have c3b0 : ((l1.length : Int) == 0) = true := beq_iff_eq.mpr c3
  have c3b1 : ((l1.length : Int) != 0) = false := bne_eq_false_iff_eq.mpr c3
  clear c3
  simp only [Option.some.injEq, Prod.mk.injEq] at H
  obtain ⟨rfl, rfl, rfl⟩ := H
  obtain ⟨Ao4, co4, eo4⟩ := Kd.R_slice HO1.out
  subst eo4
  go_enter Try.func145, Try.ntmps145
  go_wp2
  go_ret
  exact ⟨_, by first | rfl | (simp [errW_none, errW_some] <;> rfl) | (simp [*, errW_none, errW_some] <;> rfl), by (with_reducible repeat (first | apply zN | apply zM | apply zO)); exact HO1.out, by repeat (first | (with_reducible first | exact HI0.out | apply IsS150.alloc | apply IsS150.drewN | apply IsS150.drew | apply IsS150.set_1 | apply IsS150.set_2) | exact HI0.out), by repeat (first | (with_reducible first | exact HB.out | apply zC | apply zB | apply zF | refine zE ?_ (IsS150.ge HI0.out)) | exact HB.out), by repeat (first | (with_reducible first | exact HK.out | apply Kept.alloc | apply Kept.drewN | apply Kept.drew | refine Kept.setCell ?_ (.inl (.inr rfl)) _) | exact HK.out)⟩
 ·rw [if_neg c3] at H
  have c3b0 : ((l1.length : Int) == 0) = false := beq_eq_false_iff_ne.mpr c3
  have c3b1 : ((l1.length : Int) != 0) = true := bne_iff_ne.mpr c3
  have c3b2 : ¬ (l1 = []) := fun h_ => c3 (by rw [h_]; rfl)
  replace H := Option.bind_eq_some_iff.mp H
  obtain ⟨⟨t1316, t1317, t1318⟩, A50, H⟩ := H
  replace H : ((some (([] : List Int) : List Int)).bind fun y1319 => (if 0 ≤ t1316 then (if t1316 ≤ (l1.length : Int) then ((some (l1.take (t1316 : Int).toNat : List Int)).bind fun y1322 => (if y1319.length + y1322.length < 140737488355328 then ((some (y1319 ++ y1322 : List Int)).bind fun y1326 => ((spec_l01Cur_pick.f s0_0 t1317 t1318 4).bind fun bt1329 => (if bt1329.1 = 0 then (if 0 ≤ (wrap64 (t1316 + 1)) then (if (wrap64 (t1316 + 1)) ≤ (l1.length : Int) then ((some (l1.drop ((wrap64 (t1316 + 1)) : Int).toNat : List Int)).bind fun y1332 => (if y1326.length + y1332.length < 140737488355328 then (some ((y1326 ++ y1332), bt1329.2.1, bt1329.2.2)) else (none))) else (none)) else (none)) else (if bt1329.1 = 1 then ((spec_l01Cur_pick.f s0_0 bt1329.2.1 bt1329.2.2 256).bind fun bt1339 => ((some (([255, 0, 254, 240, (bt1339.1) % 256] : List Int) : List Int)).bind fun y1342 => ((spec_l01Cur_pick.f s0_0 bt1339.2.1 bt1339.2.2 5).bind fun bt1345 => (if 0 ≤ bt1345.1 then (if bt1345.1 < (y1342.length : Int) then (if y1326.length < 140737488355328 then ((some (y1326 ++ [rd y1342 bt1345.1] : List Int)).bind fun y1349 => ((some (l1.drop (t1316 : Int).toNat : List Int)).bind fun y1352 => (if y1349.length + y1352.length < 140737488355328 then (some ((y1349 ++ y1352), bt1345.2.1, bt1345.2.2)) else (none)))) else (none)) else (none)) else (none))))) else (if bt1329.1 = 2 then ((spec_l01Cur_pick.f s0_0 bt1329.2.1 bt1329.2.2 256).bind fun bt1359 => ((some (([255, 0, 254, 248, (bt1359.1) % 256] : List Int) : List Int)).bind fun y1362 => ((spec_l01Cur_pick.f s0_0 bt1359.2.1 bt1359.2.2 5).bind fun bt1365 => (if 0 ≤ bt1365.1 then (if bt1365.1 < (y1362.length : Int) then (if y1326.length < 140737488355328 then ((some (y1326 ++ [rd y1362 bt1365.1] : List Int)).bind fun y1369 => (if 0 ≤ (wrap64 (t1316 + 1)) then (if (wrap64 (t1316 + 1)) ≤ (l1.length : Int) then ((some (l1.drop ((wrap64 (t1316 + 1)) : Int).toNat : List Int)).bind fun y1372 => (if y1369.length + y1372.length < 140737488355328 then (some ((y1369 ++ y1372), bt1365.2.1, bt1365.2.2)) else (none))) else (none)) else (none))) else (none)) else (none)) else (none))))) else (some (y1326, bt1329.2.1, bt1329.2.2))))))) else (none))) else (none)) else (none))) = some (r1, r2, r3) := H
  have A5 := zA A50
  clear A50
  obtain ⟨y1319, hy1319⟩ : ∃ y_ : List Int, y_ = (([] : List Int)) := ⟨_, rfl⟩
  replace H : (if 0 ≤ t1316 then (if t1316 ≤ (l1.length : Int) then ((some (l1.take (t1316 : Int).toNat : List Int)).bind fun y1322 => (if y1319.length + y1322.length < 140737488355328 then ((some (y1319 ++ y1322 : List Int)).bind fun y1326 => ((spec_l01Cur_pick.f s0_0 t1317 t1318 4).bind fun bt1329 => (if bt1329.1 = 0 then (if 0 ≤ (wrap64 (t1316 + 1)) then (if (wrap64 (t1316 + 1)) ≤ (l1.length : Int) then ((some (l1.drop ((wrap64 (t1316 + 1)) : Int).toNat : List Int)).bind fun y1332 => (if y1326.length + y1332.length < 140737488355328 then (some ((y1326 ++ y1332), bt1329.2.1, bt1329.2.2)) else (none))) else (none)) else (none)) else (if bt1329.1 = 1 then ((spec_l01Cur_pick.f s0_0 bt1329.2.1 bt1329.2.2 256).bind fun bt1339 => ((some (([255, 0, 254, 240, (bt1339.1) % 256] : List Int) : List Int)).bind fun y1342 => ((spec_l01Cur_pick.f s0_0 bt1339.2.1 bt1339.2.2 5).bind fun bt1345 => (if 0 ≤ bt1345.1 then (if bt1345.1 < (y1342.length : Int) then (if y1326.length < 140737488355328 then ((some (y1326 ++ [rd y1342 bt1345.1] : List Int)).bind fun y1349 => ((some (l1.drop (t1316 : Int).toNat : List Int)).bind fun y1352 => (if y1349.length + y1352.length < 140737488355328 then (some ((y1349 ++ y1352), bt1345.2.1, bt1345.2.2)) else (none)))) else (none)) else (none)) else (none))))) else (if bt1329.1 = 2 then ((spec_l01Cur_pick.f s0_0 bt1329.2.1 bt1329.2.2 256).bind fun bt1359 => ((some (([255, 0, 254, 248, (bt1359.1) % 256] : List Int) : List Int)).bind fun y1362 => ((spec_l01Cur_pick.f s0_0 bt1359.2.1 bt1359.2.2 5).bind fun bt1365 => (if 0 ≤ bt1365.1 then (if bt1365.1 < (y1362.length : Int) then (if y1326.length < 140737488355328 then ((some (y1326 ++ [rd y1362 bt1365.1] : List Int)).bind fun y1369 => (if 0 ≤ (wrap64 (t1316 + 1)) then (if (wrap64 (t1316 + 1)) ≤ (l1.length : Int) then ((some (l1.drop ((wrap64 (t1316 + 1)) : Int).toNat : List Int)).bind fun y1372 => (if y1369.length + y1372.length < 140737488355328 then (some ((y1369 ++ y1372), bt1365.2.1, bt1365.2.2)) else (none))) else (none)) else (none))) else (none)) else (none)) else (none))))) else (some (y1326, bt1329.2.1, bt1329.2.2))))))) else (none))) else (none)) else (none)) = some (r1, r2, r3) := by first | (rw [hy1319]; with_reducible exact H) | (have H2_ := (zS _ _).symm.trans H; rw [hy1319]; with_reducible exact H2_) | (have H2_ := (zS _ _).symm.trans H; with_reducible exact H2_) | with_reducible exact H | (rw [hy1319]; exact H) | exact H
  have Ny1319 := zA hy1319
  clear hy1319
  by_cases c6 : 0 ≤ t1316
  ·rw [if_pos c6] at H
   have c6b0 := eq_true c6
   have c6b1 : decide (0 ≤ t1316) = true := zT c6
   clear c6
   by_cases c7 : t1316 ≤ (l1.length : Int)
   ·rw [if_pos c7] at H
    have c7b0 := eq_true c7
    have c7b1 : decide (t1316 ≤ (l1.length : Int)) = true := zT c7
    clear c7
    obtain ⟨y1322, hy1322⟩ : ∃ y_ : List Int, y_ = (l1.take (t1316 : Int).toNat) := ⟨_, rfl⟩
    replace H : (if y1319.length + y1322.length < 140737488355328 then ((some (y1319 ++ y1322 : List Int)).bind fun y1326 => ((spec_l01Cur_pick.f s0_0 t1317 t1318 4).bind fun bt1329 => (if bt1329.1 = 0 then (if 0 ≤ (wrap64 (t1316 + 1)) then (if (wrap64 (t1316 + 1)) ≤ (l1.length : Int) then ((some (l1.drop ((wrap64 (t1316 + 1)) : Int).toNat : List Int)).bind fun y1332 => (if y1326.length + y1332.length < 140737488355328 then (some ((y1326 ++ y1332), bt1329.2.1, bt1329.2.2)) else (none))) else (none)) else (none)) else (if bt1329.1 = 1 then ((spec_l01Cur_pick.f s0_0 bt1329.2.1 bt1329.2.2 256).bind fun bt1339 => ((some (([255, 0, 254, 240, (bt1339.1) % 256] : List Int) : List Int)).bind fun y1342 => ((spec_l01Cur_pick.f s0_0 bt1339.2.1 bt1339.2.2 5).bind fun bt1345 => (if 0 ≤ bt1345.1 then (if bt1345.1 < (y1342.length : Int) then (if y1326.length < 140737488355328 then ((some (y1326 ++ [rd y1342 bt1345.1] : List Int)).bind fun y1349 => ((some (l1.drop (t1316 : Int).toNat : List Int)).bind fun y1352 => (if y1349.length + y1352.length < 140737488355328 then (some ((y1349 ++ y1352), bt1345.2.1, bt1345.2.2)) else (none)))) else (none)) else (none)) else (none))))) else (if bt1329.1 = 2 then ((spec_l01Cur_pick.f s0_0 bt1329.2.1 bt1329.2.2 256).bind fun bt1359 => ((some (([255, 0, 254, 248, (bt1359.1) % 256] : List Int) : List Int)).bind fun y1362 => ((spec_l01Cur_pick.f s0_0 bt1359.2.1 bt1359.2.2 5).bind fun bt1365 => (if 0 ≤ bt1365.1 then (if bt1365.1 < (y1362.length : Int) then (if y1326.length < 140737488355328 then ((some (y1326 ++ [rd y1362 bt1365.1] : List Int)).bind fun y1369 => (if 0 ≤ (wrap64 (t1316 + 1)) then (if (wrap64 (t1316 + 1)) ≤ (l1.length : Int) then ((some (l1.drop ((wrap64 (t1316 + 1)) : Int).toNat : List Int)).bind fun y1372 => (if y1369.length + y1372.length < 140737488355328 then (some ((y1369 ++ y1372), bt1365.2.1, bt1365.2.2)) else (none))) else (none)) else (none))) else (none)) else (none)) else (none))))) else (some (y1326, bt1329.2.1, bt1329.2.2))))))) else (none)) = some (r1, r2, r3) := by first | (rw [hy1322]; with_reducible exact H) | (have H2_ := (zS _ _).symm.trans H; rw [hy1322]; with_reducible exact H2_) | (have H2_ := (zS _ _).symm.trans H; with_reducible exact H2_) | with_reducible exact H | (rw [hy1322]; exact H) | exact H
    have Ny1322 := zA hy1322
    clear hy1322
    by_cases c8 : y1319.length + y1322.length < 140737488355328
    ·rw [if_pos c8] at H
     have LMc8 := zA c8
     clear c8
     obtain ⟨y1326, hy1326⟩ : ∃ y_ : List Int, y_ = (y1319 ++ y1322) := ⟨_, rfl⟩
     replace H : ((spec_l01Cur_pick.f s0_0 t1317 t1318 4).bind fun bt1329 => (if bt1329.1 = 0 then (if 0 ≤ (wrap64 (t1316 + 1)) then (if (wrap64 (t1316 + 1)) ≤ (l1.length : Int) then ((some (l1.drop ((wrap64 (t1316 + 1)) : Int).toNat : List Int)).bind fun y1332 => (if y1326.length + y1332.length < 140737488355328 then (some ((y1326 ++ y1332), bt1329.2.1, bt1329.2.2)) else (none))) else (none)) else (none)) else (if bt1329.1 = 1 then ((spec_l01Cur_pick.f s0_0 bt1329.2.1 bt1329.2.2 256).bind fun bt1339 => ((some (([255, 0, 254, 240, (bt1339.1) % 256] : List Int) : List Int)).bind fun y1342 => ((spec_l01Cur_pick.f s0_0 bt1339.2.1 bt1339.2.2 5).bind fun bt1345 => (if 0 ≤ bt1345.1 then (if bt1345.1 < (y1342.length : Int) then (if y1326.length < 140737488355328 then ((some (y1326 ++ [rd y1342 bt1345.1] : List Int)).bind fun y1349 => ((some (l1.drop (t1316 : Int).toNat : List Int)).bind fun y1352 => (if y1349.length + y1352.length < 140737488355328 then (some ((y1349 ++ y1352), bt1345.2.1, bt1345.2.2)) else (none)))) else (none)) else (none)) else (none))))) else (if bt1329.1 = 2 then ((spec_l01Cur_pick.f s0_0 bt1329.2.1 bt1329.2.2 256).bind fun bt1359 => ((some (([255, 0, 254, 248, (bt1359.1) % 256] : List Int) : List Int)).bind fun y1362 => ((spec_l01Cur_pick.f s0_0 bt1359.2.1 bt1359.2.2 5).bind fun bt1365 => (if 0 ≤ bt1365.1 then (if bt1365.1 < (y1362.length : Int) then (if y1326.length < 140737488355328 then ((some (y1326 ++ [rd y1362 bt1365.1] : List Int)).bind fun y1369 => (if 0 ≤ (wrap64 (t1316 + 1)) then (if (wrap64 (t1316 + 1)) ≤ (l1.length : Int) then ((some (l1.drop ((wrap64 (t1316 + 1)) : Int).toNat : List Int)).bind fun y1372 => (if y1369.length + y1372.length < 140737488355328 then (some ((y1369 ++ y1372), bt1365.2.1, bt1365.2.2)) else (none))) else (none)) else (none))) else (none)) else (none)) else (none))))) else (some (y1326, bt1329.2.1, bt1329.2.2)))))) = some (r1, r2, r3) := by first | (rw [hy1326]; with_reducible exact H) | (have H2_ := (zS _ _).symm.trans H; rw [hy1326]; with_reducible exact H2_) | (have H2_ := (zS _ _).symm.trans H; with_reducible exact H2_) | with_reducible exact H | (rw [hy1326]; exact H) | exact H
     have Ny1326 := zA hy1326
     clear hy1326
     replace H := Option.bind_eq_some_iff.mp H
     obtain ⟨⟨t1329, t1330, t1331⟩, A90, H⟩ := H
     replace H : (if t1329 = 0 then (if 0 ≤ (wrap64 (t1316 + 1)) then (if (wrap64 (t1316 + 1)) ≤ (l1.length : Int) then ((some (l1.drop ((wrap64 (t1316 + 1)) : Int).toNat : List Int)).bind fun y1332 => (if y1326.length + y1332.length < 140737488355328 then (some ((y1326 ++ y1332), t1330, t1331)) else (none))) else (none)) else (none)) else (if t1329 = 1 then ((spec_l01Cur_pick.f s0_0 t1330 t1331 256).bind fun bt1339 => ((some (([255, 0, 254, 240, (bt1339.1) % 256] : List Int) : List Int)).bind fun y1342 => ((spec_l01Cur_pick.f s0_0 bt1339.2.1 bt1339.2.2 5).bind fun bt1345 => (if 0 ≤ bt1345.1 then (if bt1345.1 < (y1342.length : Int) then (if y1326.length < 140737488355328 then ((some (y1326 ++ [rd y1342 bt1345.1] : List Int)).bind fun y1349 => ((some (l1.drop (t1316 : Int).toNat : List Int)).bind fun y1352 => (if y1349.length + y1352.length < 140737488355328 then (some ((y1349 ++ y1352), bt1345.2.1, bt1345.2.2)) else (none)))) else (none)) else (none)) else (none))))) else (if t1329 = 2 then ((spec_l01Cur_pick.f s0_0 t1330 t1331 256).bind fun bt1359 => ((some (([255, 0, 254, 248, (bt1359.1) % 256] : List Int) : List Int)).bind fun y1362 => ((spec_l01Cur_pick.f s0_0 bt1359.2.1 bt1359.2.2 5).bind fun bt1365 => (if 0 ≤ bt1365.1 then (if bt1365.1 < (y1362.length : Int) then (if y1326.length < 140737488355328 then ((some (y1326 ++ [rd y1362 bt1365.1] : List Int)).bind fun y1369 => (if 0 ≤ (wrap64 (t1316 + 1)) then (if (wrap64 (t1316 + 1)) ≤ (l1.length : Int) then ((some (l1.drop ((wrap64 (t1316 + 1)) : Int).toNat : List Int)).bind fun y1372 => (if y1369.length + y1372.length < 140737488355328 then (some ((y1369 ++ y1372), bt1365.2.1, bt1365.2.2)) else (none))) else (none)) else (none))) else (none)) else (none)) else (none))))) else (some (y1326, t1330, t1331))))) = some (r1, r2, r3) := H
     have A9 := zA A90
     clear A90
     by_cases c10 : t1329 = 0
     ·rw [if_pos c10] at H
      have c10b0 : (t1329 == 0) = true := beq_iff_eq.mpr c10
      have c10b1 : (t1329 != 0) = false := bne_eq_false_iff_eq.mpr c10
      clear c10
      obtain ⟨ji11, hji11⟩ : ∃ j_ : Int, (wrap64 (t1316 + 1)) = j_ := ⟨_, rfl⟩
      replace H : (if 0 ≤ (ji11) then (if (ji11) ≤ (l1.length : Int) then ((some (l1.drop ((ji11) : Int).toNat : List Int)).bind fun y1332 => (if y1326.length + y1332.length < 140737488355328 then (some ((y1326 ++ y1332), t1330, t1331)) else (none))) else (none)) else (none)) = some (r1, r2, r3) := by first | (rw [hji11] at H; exact H) | (simp only [hji11] at H ⊢; exact H)
      (try rw [hji11] at A5)
      (try rw [hji11] at A9)
      have hji11w : (IntKind.i64.wrap (t1316 + 1)) = ji11 := (i64_w _).trans hji11
      by_cases c12 : 0 ≤ (ji11)
      ·rw [if_pos c12] at H
       have c12b0 := eq_true c12
       have c12b1 : decide (0 ≤ (ji11)) = true := zT c12
       clear c12
       by_cases c13 : (ji11) ≤ (l1.length : Int)
       ·rw [if_pos c13] at H
        have c13b0 := eq_true c13
        have c13b1 : decide ((ji11) ≤ (l1.length : Int)) = true := zT c13
        clear c13
        obtain ⟨y1332, hy1332⟩ : ∃ y_ : List Int, y_ = (l1.drop ((ji11) : Int).toNat) := ⟨_, rfl⟩
        replace H : (if y1326.length + y1332.length < 140737488355328 then (some ((y1326 ++ y1332), t1330, t1331)) else (none)) = some (r1, r2, r3) := by first | (rw [hy1332]; with_reducible exact H) | (have H2_ := (zS _ _).symm.trans H; rw [hy1332]; with_reducible exact H2_) | (have H2_ := (zS _ _).symm.trans H; with_reducible exact H2_) | with_reducible exact H | (rw [hy1332]; exact H) | exact H
        have Ny1332 := zA hy1332
        clear hy1332
        by_cases c14 : y1326.length + y1332.length < 140737488355328
        ·rw [if_pos c14] at H
         have LMc14 := zA c14
         clear c14
         obtain ⟨y1336, hy1336⟩ : ∃ y_ : List Int, y_ = (y1326 ++ y1332) := ⟨_, rfl⟩
         replace H : (some (y1336, t1330, t1331)) = some (r1, r2, r3) := by first | (rw [hy1336]; with_reducible exact H) | (have H2_ := (zS _ _).symm.trans H; rw [hy1336]; with_reducible exact H2_) | (have H2_ := (zS _ _).symm.trans H; with_reducible exact H2_) | with_reducible exact H | (rw [hy1336]; exact H) | exact H
         have Ny1336 := zA hy1336
         clear hy1336
         simp only [Option.some.injEq, Prod.mk.injEq] at H
         obtain ⟨rfl, rfl, rfl⟩ := H
         obtain ⟨Ao15, co15, eo15⟩ := Kd.R_slice HO1.out
         subst eo15
         go_enter Try.func145, Try.ntmps145
         go_wp2_with (first | ((with_reducible refine gate_callee (f := 85) rfl ?_); refine goesL_ (some 14) rfl rfl Try.func85 (by kernel_rfl) rfl #[.pointer (some ⟨g, 0, none⟩), .int .i64 (l1.length : Int)] rfl (by (try simp only [zU, zV, zW]); first | done | rfl | (simp only [zR, zQ]; rfl)) ?_; (with_reducible refine (spec_l01Cur_pick.calls g s0_0 s0_1 s0_2 (l1.length : Int) t1316 t1317 t1318 w0 _ ?side1 ?side2 A5.out).mono ?_); (case side1 => repeat (first | (with_reducible first | exact HI0.out | apply IsS150.alloc | apply IsS150.drewN | apply IsS150.drew | apply IsS150.set_1 | apply IsS150.set_2) | exact HI0.out)); (case side2 => repeat (first | (with_reducible first | exact HB.out | apply zC | apply zB | apply zF | refine zE ?_ (IsS150.ge HI0.out)) | exact HB.out)); rintro e w16 ⟨rfl, hi, hb, hk⟩; refine ⟨_, rfl, ?_⟩; have n0_ := zA (zP (Kd.R_keep (IsS150.apart (show IsS150 w0 _ g s0_0 s0_1 s0_2 from by repeat (first | (with_reducible first | exact HI0.out | apply IsS150.alloc | apply IsS150.drewN | apply IsS150.drew | apply IsS150.set_1 | apply IsS150.set_2) | exact HI0.out)) (by (with_reducible repeat (first | apply zN | apply zM | apply zO)); exact HO1.out) (by decide)) hk (fun _ h => h.2)) (fun _ h => h.1)); have n1_ := zA (Kept.of_keep (S := (fun k_ => (P1_ k_) ∨ k_ = g)) (by repeat (first | (with_reducible first | exact HK.out | apply Kept.alloc | apply Kept.drewN | apply Kept.drew | refine Kept.setCell ?_ (.inl (.inr rfl)) _) | exact HK.out)) hk (.inl (.inr rfl))); have n2_ := zA (hb); have n3_ := zA (hi); clear HO1; clear HK; clear HB; clear HI0; have HO1 := n0_; have HK := n1_; have HB := n2_; have HI0 := n3_; clear n0_ n1_ n2_ n3_; (try clear hb); (try clear hb2); (try clear hk); (try clear hi)) | ((with_reducible refine gate_dst (N := 15) rfl ?_); refine Kd.R_lit (Kd.int .u8) _ 5 ?hg (N := 15) ?hd (xs := ([] : List Int)) (inner := []) (ok := fun _ => True) (okp := fun _ => True) ?hr ?hp (fun _ hk => hk) trivial (Below.refl _ _) (Nat.le_refl _) (by simp) ?_; (case hd => rfl); (case hg => rfl); (case hr => first | (go_simp; done) | (go_simp; rfl)); (case hp => exact (Reps.none _ _)); intro v1320 w17 ho18 hb hg_ hnew_; clear hg_ hnew_; (first | rw [← Ny1319.out] at ho18 | (simp only [Int.reduceToNat] at ho18; rw [← Ny1319.out] at ho18)); have n0_ := zA (Kd.R_elder' (by (with_reducible repeat (first | apply zN | apply zM | apply zO)); exact HO1.out) (Kd.R_base ho18) hb); have n1_ := zA (Kd.R_lower (Kd.R_new' (Kd.R_newM (M := fun k_ => (P1_ k_ ∨ w.heap.size ≤ k_)) ho18 (by first | exact HK.out.1 | exact (show Kept w _ (fun k_ => (P1_ k_) ∨ k_ = g) from by repeat (first | (with_reducible first | exact HK.out | apply Kept.alloc | apply Kept.drewN | apply Kept.drew | refine Kept.setCell ?_ (.inl (.inr rfl)) _) | exact HK.out)).1) (fun k_ h_ => .inr h_)) (Kd.R_lt (by (with_reducible repeat (first | apply zN | apply zM | apply zO)); exact HO1.out))) (zL (by repeat (first | (with_reducible first | exact HB.out | apply zC | apply zB | apply zF | refine zE ?_ (IsS150.ge HI0.out)) | exact HB.out)))); have n2_ := zA (IsS150.below (by repeat (first | (with_reducible first | exact HI0.out | apply IsS150.alloc | apply IsS150.drewN | apply IsS150.drew | apply IsS150.set_1 | apply IsS150.set_2) | exact HI0.out)) hb); have n3_ := zA (Kept.below (S := (fun k_ => (P1_ k_) ∨ k_ = g)) (by repeat (first | (with_reducible first | exact HK.out | apply Kept.alloc | apply Kept.drewN | apply Kept.drew | refine Kept.setCell ?_ (.inl (.inr rfl)) _) | exact HK.out)) hb); have n4_ := zA (below_step (by repeat (first | (with_reducible first | exact HB.out | apply zC | apply zB | apply zF | refine zE ?_ (IsS150.ge HI0.out)) | exact HB.out)) hb); clear HO1; clear HI0; clear HK; clear HB; have HO1 := n0_; have HO1321 := n1_; have HI0 := n2_; have HK := n3_; have HB := n4_; clear n0_ n1_ n2_ n3_ n4_; clear hb ho18; have q19 : (t1316 : Int) ≤ ((l1.length : Int) : Int) := zI (by first | (with_reducible assumption) | assumption); obtain ⟨i019, hi019, _, hsz19, _⟩ := info_parts info5; have hroom19 : l1.length ≤ co15 := (yK HO1.out).2.1; have hC19 : Kd.C (Kd.int .u8) _ Ao15 l1.length l1 := (yK HO1.out).2.2; have hcut19 := cut_to (P := Try.prog) 23 5 .i64 Try.underlying23 hi019 Ao15 l1.length co15 t1316 (zI (by first | (with_reducible assumption) | assumption)) q19 hroom19; have hr19 := Kd.C_take (m := (t1316 : Int).toNat) hC19 (by omega); have hy19 : y1322.length = (t1316 : Int).toNat := (by rw [Ny1322.out, zQ]; omega); rw [← Ny1322.out] at hr19; rw [← hy19] at hcut19; have HR1325 := zA hr19; have HC1325 := zA (show y1322.length ≤ co15 from by omega); clear hr19 hC19 hroom19 hi019 hsz19; have KY19 := zA hy19; clear hy19; have KL19 := zA (show (t1316 : Int).toNat ≤ l1.length from by omega); replace q19 := eq_true q19) | ((with_reducible refine gate_builtin (b := .append) (xs := #[.tmp 15, .tmp 18]) rfl ?_); at_builtin; refine Kd.R_append_rows (Kd.int .u8) (w0 := w0) w0.heap.size rfl (.tmp 15) (.tmp 18) 23 5 (.int .u8 0) 1 rfl Try.underlying23 info5 rfl (by decide) (by omega) v1320 y1319 y1322 _ _ _ (fun k_ => (P1_ k_ ∨ w.heap.size ≤ k_) ∧ some k_ ≠ (.slice Ao15 l1.length co15 : Value).ownBlock) (fun _ => False) rfl rfl ?aO ?aR (fun _ _ h => h) (fun _ h => h.elim) ?aF ?aB ?aS ?aL ?_; (case aR => repeat (first | exact (by repeat (first | (with_reducible exact HR1325.out) | (with_reducible refine yN ?_ _) | (with_reducible refine yL ?_ _) | (with_reducible refine yM ?_) | exact HR1325.out)) | (with_reducible refine yN ?_ _) | (with_reducible refine yL ?_ _) | (with_reducible refine yM ?_))); (case aB => exact (by repeat (first | (with_reducible first | exact HB.out | apply zC | apply zB | apply zF | refine zE ?_ (IsS150.ge HI0.out)) | exact HB.out))); (case aF => exact (fun k_ hk => ⟨(.inr (Nat.le_trans (by first | exact HK.out.1 | exact (show Kept w _ (fun k_ => (P1_ k_) ∨ k_ = g) from by repeat (first | (with_reducible first | exact HK.out | apply Kept.alloc | apply Kept.drewN | apply Kept.drew | refine Kept.setCell ?_ (.inl (.inr rfl)) _) | exact HK.out)).1) hk)), Kd.fresh' (Kd.R_lt (by (with_reducible repeat (first | apply zN | apply zM | apply zO)); exact HO1.out)) k_ hk⟩)); (case aO => exact (by (with_reducible repeat (first | apply zN | apply zM | apply zO)); exact zP HO1321.out (fun _ hk => ⟨hk.1.1, hk.2⟩))); (case aS => exact (zL (by repeat (first | (with_reducible first | exact HB.out | apply zC | apply zB | apply zF | refine zE ?_ (IsS150.ge HI0.out)) | exact HB.out)))); (case aL => have := LMc8.out; omega); intro v1327 w20 ho hb hg hat; rw [← Ny1326.out] at ho; have n0_ := zA (IsS150.grown (by repeat (first | (with_reducible first | exact HI0.out | apply IsS150.alloc | apply IsS150.drewN | apply IsS150.drew | apply IsS150.set_1 | apply IsS150.set_2) | exact HI0.out)) hg (IsS150.own_ne HI0.out HO1321.out (by decide))); have n1_ := zA (Kd.R_after (ok := (fun k_ => (P1_ k_ ∨ w.heap.size ≤ k_))) (by (with_reducible repeat (first | apply zN | apply zM | apply zO)); exact HO1.out) hg hat); have n2_ := zA (hb); have n3_ := zA (Kept.of_grown (S := (fun k_ => (P1_ k_) ∨ k_ = g)) hg (by repeat (first | (with_reducible first | exact HK.out | apply Kept.alloc | apply Kept.drewN | apply Kept.drew | refine Kept.setCell ?_ (.inl (.inr rfl)) _) | exact HK.out)) (fun k_ e_ => Or.imp_left Or.inl ((HO1321.out.1 k_ e_).1.1))); have n4_ := zA ((show Kd.C (Kd.int .u8) w20 Ao15 y1322.length y1322 from by rw [Ny1322.out]; exact Kd.C_take (m := (t1316 : Int).toNat) ((yK (Kd.R_after (ok := (fun k_ => (P1_ k_ ∨ w.heap.size ≤ k_))) (by (with_reducible repeat (first | apply zN | apply zM | apply zO)); exact HO1.out) hg hat)).2.2) KL19.out)); have n5_ := zA (ho); clear HI0; clear HO1; clear HB; clear HK; clear HR1325; clear HO1321; have HI0 := n0_; have HO1 := n1_; have HB := n2_; have HK := n3_; have HR1325 := n4_; have HO1328 := n5_; clear n0_ n1_ n2_ n3_ n4_ n5_; clear ho hb hg hat) | ((with_reducible refine gate_callee (f := 85) rfl ?_); refine goesL_ (some 21) rfl rfl Try.func85 (by kernel_rfl) rfl #[.pointer (some ⟨g, 0, none⟩), .int .i64 4] rfl (by (try simp only [zU, zV, zW]); first | done | rfl | (simp only [zR, zQ]; rfl)) ?_; (with_reducible refine (spec_l01Cur_pick.calls g s0_0 t1317 t1318 4 t1329 t1330 t1331 w0 _ ?side1 ?side2 A9.out).mono ?_); (case side1 => repeat (first | (with_reducible first | exact HI0.out | apply IsS150.alloc | apply IsS150.drewN | apply IsS150.drew | apply IsS150.set_1 | apply IsS150.set_2) | exact HI0.out)); (case side2 => repeat (first | (with_reducible first | exact HB.out | apply zC | apply zB | apply zF | refine zE ?_ (IsS150.ge HI0.out)) | exact HB.out)); rintro e w21 ⟨rfl, hi, hb, hk⟩; refine ⟨_, rfl, ?_⟩; have n0_ := zA (zP (Kd.R_keep (IsS150.apart (show IsS150 w0 _ g s0_0 t1317 t1318 from by repeat (first | (with_reducible first | exact HI0.out | apply IsS150.alloc | apply IsS150.drewN | apply IsS150.drew | apply IsS150.set_1 | apply IsS150.set_2) | exact HI0.out)) (by (with_reducible repeat (first | apply zN | apply zM | apply zO)); exact HO1.out) (by decide)) hk (fun _ h => h.2)) (fun _ h => h.1)); have n1_ := zA (zP (Kd.R_keep (IsS150.apart (show IsS150 w0 _ g s0_0 t1317 t1318 from by repeat (first | (with_reducible first | exact HI0.out | apply IsS150.alloc | apply IsS150.drewN | apply IsS150.drew | apply IsS150.set_1 | apply IsS150.set_2) | exact HI0.out)) (by (with_reducible repeat (first | apply zN | apply zM | apply zO)); exact HO1328.out) (by decide)) hk (fun _ h => h.2)) (fun _ h => h.1)); have n2_ := zA (Kept.of_keep (S := (fun k_ => (P1_ k_) ∨ k_ = g)) (by repeat (first | (with_reducible first | exact HK.out | apply Kept.alloc | apply Kept.drewN | apply Kept.drew | refine Kept.setCell ?_ (.inl (.inr rfl)) _) | exact HK.out)) hk (.inl (.inr rfl))); have n3_ := zA (hb); have n4_ := zA (hi); clear HO1; clear HO1328; clear HK; clear HB; clear HI0; have HO1 := n0_; have HO1328 := n1_; have HK := n2_; have HB := n3_; have HI0 := n4_; clear n0_ n1_ n2_ n3_ n4_; (try clear hb); (try clear hb2); (try clear hk); (try clear hi); have q22 : ((ji11) : Int) ≤ ((l1.length : Int) : Int) := zI (by first | (with_reducible assumption) | assumption); obtain ⟨i022, hi022, _, hsz22, _⟩ := info_parts info5; have hroom22 : l1.length ≤ co15 := (yK HO1.out).2.1; have hC22 : Kd.C (Kd.int .u8) _ Ao15 l1.length l1 := (yK HO1.out).2.2; have q022 : (0 : Int) ≤ ((ji11) : Int) := zI (by first | (with_reducible assumption) | assumption); have hcut22 := cut_from (P := Try.prog) 23 5 .i64 Try.underlying23 hi022 1 hsz22 Ao15 l1.length co15 (ji11) q022 q22; have hr22 := Kd.C_drop (m := ((ji11) : Int).toNat) (c := co15) hC22 (by omega) hroom22; obtain ⟨A22, hA22⟩ : ∃ A1, A1 = (if co15 = ((ji11) : Int).toNat then Ao15 else (Ao15 : Option Addr).map (·.add (((ji11) : Int).toNat * 1))) := ⟨_, rfl⟩; obtain ⟨c22, hc22⟩ : ∃ c1, c1 = co15 - ((ji11) : Int).toNat := ⟨_, rfl⟩; have hy22 : y1332.length = l1.length - ((ji11) : Int).toNat := (by rw [Ny1332.out, zR] <;> omega); rw [show (l1).drop ((ji11) : Int).toNat = y1332 from Ny1332.out.symm] at hr22; replace hr22 : Kd.C (Kd.int .u8) _ A22 y1332.length y1332 := (by rw [hA22]; exact hr22); rw [← hy22, ← hA22, ← hc22] at hcut22; have HR1335 := zA hr22; have HC1335 := zA (show y1332.length ≤ c22 from by rw [hy22, hc22]; exact Nat.sub_le_sub_right hroom22 _); clear hr22 hC22 hroom22 hi022 hsz22 hc22; have KY22 := zA hy22; have KA22 := zA hA22; clear hy22 hA22; have KL22 := zA (show ((ji11) : Int).toNat ≤ l1.length from by omega); replace q22 := eq_true q22) | ((with_reducible refine gate_builtin (b := .append) (xs := #[.tmp 24, .tmp 28]) rfl ?_); at_builtin; refine Kd.R_append_rows (Kd.int .u8) (w0 := w0) w0.heap.size rfl (.tmp 24) (.tmp 28) 23 5 (.int .u8 0) 1 rfl Try.underlying23 info5 rfl (by decide) (by omega) v1327 y1326 y1332 _ _ _ (fun k_ => (P1_ k_ ∨ w.heap.size ≤ k_) ∧ some k_ ≠ (.slice Ao15 l1.length co15 : Value).ownBlock) (fun _ => False) rfl rfl ?aO ?aR (fun _ _ h => h) (fun _ h => h.elim) ?aF ?aB ?aS ?aL ?_; (case aR => repeat (first | exact (by repeat (first | (with_reducible exact HR1335.out) | (with_reducible refine yN ?_ _) | (with_reducible refine yL ?_ _) | (with_reducible refine yM ?_) | exact HR1335.out)) | (with_reducible refine yN ?_ _) | (with_reducible refine yL ?_ _) | (with_reducible refine yM ?_))); (case aB => exact (by repeat (first | (with_reducible first | exact HB.out | apply zC | apply zB | apply zF | refine zE ?_ (IsS150.ge HI0.out)) | exact HB.out))); (case aF => exact (fun k_ hk => ⟨(.inr (Nat.le_trans (by first | exact HK.out.1 | exact (show Kept w _ (fun k_ => (P1_ k_) ∨ k_ = g) from by repeat (first | (with_reducible first | exact HK.out | apply Kept.alloc | apply Kept.drewN | apply Kept.drew | refine Kept.setCell ?_ (.inl (.inr rfl)) _) | exact HK.out)).1) hk)), Kd.fresh' (Kd.R_lt (by (with_reducible repeat (first | apply zN | apply zM | apply zO)); exact HO1.out)) k_ hk⟩)); (case aO => exact (by (with_reducible repeat (first | apply zN | apply zM | apply zO)); exact HO1328.out)); (case aS => exact (zL (by repeat (first | (with_reducible first | exact HB.out | apply zC | apply zB | apply zF | refine zE ?_ (IsS150.ge HI0.out)) | exact HB.out)))); (case aL => have := LMc14.out; omega); intro v1337 w23 ho hb hg hat; rw [← Ny1336.out] at ho; have n0_ := zA (IsS150.grown (by repeat (first | (with_reducible first | exact HI0.out | apply IsS150.alloc | apply IsS150.drewN | apply IsS150.drew | apply IsS150.set_1 | apply IsS150.set_2) | exact HI0.out)) hg (IsS150.own_ne HI0.out HO1328.out (by decide))); have n1_ := zA (Kd.R_after (ok := (fun k_ => (P1_ k_ ∨ w.heap.size ≤ k_))) (by (with_reducible repeat (first | apply zN | apply zM | apply zO)); exact HO1.out) hg hat); have n2_ := zA (hb); have n3_ := zA (Kept.of_grown (S := (fun k_ => (P1_ k_) ∨ k_ = g)) hg (by repeat (first | (with_reducible first | exact HK.out | apply Kept.alloc | apply Kept.drewN | apply Kept.drew | refine Kept.setCell ?_ (.inl (.inr rfl)) _) | exact HK.out)) (fun k_ e_ => Or.imp_left Or.inl ((HO1328.out.1 k_ e_).1))); have n4_ := zA ((show Kd.C (Kd.int .u8) w23 A22 y1332.length y1332 from by rw [Ny1332.out, KA22.out]; exact Kd.C_drop (m := ((ji11) : Int).toNat) (c := co15) ((yK (Kd.R_after (ok := (fun k_ => (P1_ k_ ∨ w.heap.size ≤ k_))) (by (with_reducible repeat (first | apply zN | apply zM | apply zO)); exact HO1.out) hg hat)).2.2) KL22.out ((yK (Kd.R_after (ok := (fun k_ => (P1_ k_ ∨ w.heap.size ≤ k_))) (by (with_reducible repeat (first | apply zN | apply zM | apply zO)); exact HO1.out) hg hat)).2.1))); have n5_ := zA (ho); clear HI0; clear HO1; clear HB; clear HK; clear HR1335; clear HO1328; have HI0 := n0_; have HO1 := n1_; have HB := n2_; have HK := n3_; have HR1335 := n4_; have HO1338 := n5_; clear n0_ n1_ n2_ n3_ n4_ n5_; clear ho hb hg hat))
         go_ret
         exact ⟨_, by first | rfl | (simp [errW_none, errW_some] <;> rfl) | (simp only [← hji11]; first | rfl | (simp [errW_none, errW_some] <;> rfl)) | (simp [*, errW_none, errW_some] <;> rfl), by (with_reducible repeat (first | apply zN | apply zM | apply zO)); exact zP HO1338.out (fun _ hk => hk.1), by repeat (first | (with_reducible first | exact HI0.out | apply IsS150.alloc | apply IsS150.drewN | apply IsS150.drew | apply IsS150.set_1 | apply IsS150.set_2) | exact HI0.out), by repeat (first | (with_reducible first | exact HB.out | apply zC | apply zB | apply zF | refine zE ?_ (IsS150.ge HI0.out)) | exact HB.out), by repeat (first | (with_reducible first | exact HK.out | apply Kept.alloc | apply Kept.drewN | apply Kept.drew | refine Kept.setCell ?_ (.inl (.inr rfl)) _) | exact HK.out)⟩
        ·rw [if_neg c14] at H
         exact absurd H (by simp)
       ·rw [if_neg c13] at H
        exact absurd H (by simp)
      ·rw [if_neg c12] at H
       exact absurd H (by simp)
     ·rw [if_neg c10] at H
      have c10b0 : (t1329 == 0) = false := beq_eq_false_iff_ne.mpr c10
      have c10b1 : (t1329 != 0) = true := bne_iff_ne.mpr c10
      by_cases c24 : t1329 = 1
      ·rw [if_pos c24] at H
       have c24b0 : (t1329 == 1) = true := beq_iff_eq.mpr c24
       have c24b1 : (t1329 != 1) = false := bne_eq_false_iff_eq.mpr c24
       clear c24
       replace H := Option.bind_eq_some_iff.mp H
       obtain ⟨⟨t1339, t1340, t1341⟩, A250, H⟩ := H
       replace H : ((some (([255, 0, 254, 240, (t1339) % 256] : List Int) : List Int)).bind fun y1342 => ((spec_l01Cur_pick.f s0_0 t1340 t1341 5).bind fun bt1345 => (if 0 ≤ bt1345.1 then (if bt1345.1 < (y1342.length : Int) then (if y1326.length < 140737488355328 then ((some (y1326 ++ [rd y1342 bt1345.1] : List Int)).bind fun y1349 => ((some (l1.drop (t1316 : Int).toNat : List Int)).bind fun y1352 => (if y1349.length + y1352.length < 140737488355328 then (some ((y1349 ++ y1352), bt1345.2.1, bt1345.2.2)) else (none)))) else (none)) else (none)) else (none)))) = some (r1, r2, r3) := H
       have A25 := zA A250
       clear A250
       obtain ⟨y1342, hy1342⟩ : ∃ y_ : List Int, y_ = (([255, 0, 254, 240, (t1339) % 256] : List Int)) := ⟨_, rfl⟩
       replace H : ((spec_l01Cur_pick.f s0_0 t1340 t1341 5).bind fun bt1345 => (if 0 ≤ bt1345.1 then (if bt1345.1 < (y1342.length : Int) then (if y1326.length < 140737488355328 then ((some (y1326 ++ [rd y1342 bt1345.1] : List Int)).bind fun y1349 => ((some (l1.drop (t1316 : Int).toNat : List Int)).bind fun y1352 => (if y1349.length + y1352.length < 140737488355328 then (some ((y1349 ++ y1352), bt1345.2.1, bt1345.2.2)) else (none)))) else (none)) else (none)) else (none))) = some (r1, r2, r3) := by first | (rw [hy1342]; with_reducible exact H) | (have H2_ := (zS _ _).symm.trans H; rw [hy1342]; with_reducible exact H2_) | (have H2_ := (zS _ _).symm.trans H; with_reducible exact H2_) | with_reducible exact H | (rw [hy1342]; exact H) | exact H
       have Ny1342 := zA hy1342
       clear hy1342
       replace H := Option.bind_eq_some_iff.mp H
       obtain ⟨⟨t1345, t1346, t1347⟩, A260, H⟩ := H
       replace H : (if 0 ≤ t1345 then (if t1345 < (y1342.length : Int) then (if y1326.length < 140737488355328 then ((some (y1326 ++ [rd y1342 t1345] : List Int)).bind fun y1349 => ((some (l1.drop (t1316 : Int).toNat : List Int)).bind fun y1352 => (if y1349.length + y1352.length < 140737488355328 then (some ((y1349 ++ y1352), t1346, t1347)) else (none)))) else (none)) else (none)) else (none)) = some (r1, r2, r3) := H
       have A26 := zA A260
       clear A260
       by_cases c27 : 0 ≤ t1345
       ·rw [if_pos c27] at H
        have c27b0 : decide (0 ≤ t1345) = true := zT c27
        clear c27
        by_cases c28 : t1345 < (y1342.length : Int)
        ·rw [if_pos c28] at H
         have c28b0 : decide (t1345 < (y1342.length : Int)) = true := zT c28
         clear c28
         by_cases c29 : y1326.length < 140737488355328
         ·rw [if_pos c29] at H
          have LMc29 := zA c29
          clear c29
          obtain ⟨y1349, hy1349⟩ : ∃ y_ : List Int, y_ = (y1326 ++ [rd y1342 t1345]) := ⟨_, rfl⟩
          replace H : ((some (l1.drop (t1316 : Int).toNat : List Int)).bind fun y1352 => (if y1349.length + y1352.length < 140737488355328 then (some ((y1349 ++ y1352), t1346, t1347)) else (none))) = some (r1, r2, r3) := by first | (rw [hy1349]; with_reducible exact H) | (have H2_ := (zS _ _).symm.trans H; rw [hy1349]; with_reducible exact H2_) | (have H2_ := (zS _ _).symm.trans H; with_reducible exact H2_) | with_reducible exact H | (rw [hy1349]; exact H) | exact H
          have Ny1349 := zA hy1349
          clear hy1349
          have c30b0 := eq_true (zI (by first | (with_reducible assumption) | assumption) : 0 ≤ t1316)
          have c31b0 := eq_true (zI (by first | (with_reducible assumption) | assumption) : t1316 ≤ (l1.length : Int))
          obtain ⟨y1352, hy1352⟩ : ∃ y_ : List Int, y_ = (l1.drop (t1316 : Int).toNat) := ⟨_, rfl⟩
          replace H : (if y1349.length + y1352.length < 140737488355328 then (some ((y1349 ++ y1352), t1346, t1347)) else (none)) = some (r1, r2, r3) := by first | (rw [hy1352]; with_reducible exact H) | (have H2_ := (zS _ _).symm.trans H; rw [hy1352]; with_reducible exact H2_) | (have H2_ := (zS _ _).symm.trans H; with_reducible exact H2_) | with_reducible exact H | (rw [hy1352]; exact H) | exact H
          have Ny1352 := zA hy1352
          clear hy1352
          by_cases c32 : y1349.length + y1352.length < 140737488355328
          ·rw [if_pos c32] at H
           have LMc32 := zA c32
           clear c32
           obtain ⟨y1356, hy1356⟩ : ∃ y_ : List Int, y_ = (y1349 ++ y1352) := ⟨_, rfl⟩
           replace H : (some (y1356, t1346, t1347)) = some (r1, r2, r3) := by first | (rw [hy1356]; with_reducible exact H) | (have H2_ := (zS _ _).symm.trans H; rw [hy1356]; with_reducible exact H2_) | (have H2_ := (zS _ _).symm.trans H; with_reducible exact H2_) | with_reducible exact H | (rw [hy1356]; exact H) | exact H
           have Ny1356 := zA hy1356
           clear hy1356
           simp only [Option.some.injEq, Prod.mk.injEq] at H
           obtain ⟨rfl, rfl, rfl⟩ := H
           obtain ⟨Ao33, co33, eo33⟩ := Kd.R_slice HO1.out
           subst eo33
           go_enter Try.func145, Try.ntmps145
           go_wp2_with (first | ((with_reducible refine gate_callee (f := 85) rfl ?_); refine goesL_ (some 14) rfl rfl Try.func85 (by kernel_rfl) rfl #[.pointer (some ⟨g, 0, none⟩), .int .i64 (l1.length : Int)] rfl (by (try simp only [zU, zV, zW]); first | done | rfl | (simp only [zR, zQ]; rfl)) ?_; (with_reducible refine (spec_l01Cur_pick.calls g s0_0 s0_1 s0_2 (l1.length : Int) t1316 t1317 t1318 w0 _ ?side1 ?side2 A5.out).mono ?_); (case side1 => repeat (first | (with_reducible first | exact HI0.out | apply IsS150.alloc | apply IsS150.drewN | apply IsS150.drew | apply IsS150.set_1 | apply IsS150.set_2) | exact HI0.out)); (case side2 => repeat (first | (with_reducible first | exact HB.out | apply zC | apply zB | apply zF | refine zE ?_ (IsS150.ge HI0.out)) | exact HB.out)); rintro e w34 ⟨rfl, hi, hb, hk⟩; refine ⟨_, rfl, ?_⟩; have n0_ := zA (zP (Kd.R_keep (IsS150.apart (show IsS150 w0 _ g s0_0 s0_1 s0_2 from by repeat (first | (with_reducible first | exact HI0.out | apply IsS150.alloc | apply IsS150.drewN | apply IsS150.drew | apply IsS150.set_1 | apply IsS150.set_2) | exact HI0.out)) (by (with_reducible repeat (first | apply zN | apply zM | apply zO)); exact HO1.out) (by decide)) hk (fun _ h => h.2)) (fun _ h => h.1)); have n1_ := zA (Kept.of_keep (S := (fun k_ => (P1_ k_) ∨ k_ = g)) (by repeat (first | (with_reducible first | exact HK.out | apply Kept.alloc | apply Kept.drewN | apply Kept.drew | refine Kept.setCell ?_ (.inl (.inr rfl)) _) | exact HK.out)) hk (.inl (.inr rfl))); have n2_ := zA (hb); have n3_ := zA (hi); clear HO1; clear HK; clear HB; clear HI0; have HO1 := n0_; have HK := n1_; have HB := n2_; have HI0 := n3_; clear n0_ n1_ n2_ n3_; (try clear hb); (try clear hb2); (try clear hk); (try clear hi)) | ((with_reducible refine gate_dst (N := 15) rfl ?_); refine Kd.R_lit (Kd.int .u8) _ 5 ?hg (N := 15) ?hd (xs := ([] : List Int)) (inner := []) (ok := fun _ => True) (okp := fun _ => True) ?hr ?hp (fun _ hk => hk) trivial (Below.refl _ _) (Nat.le_refl _) (by simp) ?_; (case hd => rfl); (case hg => rfl); (case hr => first | (go_simp; done) | (go_simp; rfl)); (case hp => exact (Reps.none _ _)); intro v1320 w35 ho36 hb hg_ hnew_; clear hg_ hnew_; (first | rw [← Ny1319.out] at ho36 | (simp only [Int.reduceToNat] at ho36; rw [← Ny1319.out] at ho36)); have n0_ := zA (Kd.R_elder' (by (with_reducible repeat (first | apply zN | apply zM | apply zO)); exact HO1.out) (Kd.R_base ho36) hb); have n1_ := zA (Kd.R_lower (Kd.R_new' (Kd.R_newM (M := fun k_ => (P1_ k_ ∨ w.heap.size ≤ k_)) ho36 (by first | exact HK.out.1 | exact (show Kept w _ (fun k_ => (P1_ k_) ∨ k_ = g) from by repeat (first | (with_reducible first | exact HK.out | apply Kept.alloc | apply Kept.drewN | apply Kept.drew | refine Kept.setCell ?_ (.inl (.inr rfl)) _) | exact HK.out)).1) (fun k_ h_ => .inr h_)) (Kd.R_lt (by (with_reducible repeat (first | apply zN | apply zM | apply zO)); exact HO1.out))) (zL (by repeat (first | (with_reducible first | exact HB.out | apply zC | apply zB | apply zF | refine zE ?_ (IsS150.ge HI0.out)) | exact HB.out)))); have n2_ := zA (IsS150.below (by repeat (first | (with_reducible first | exact HI0.out | apply IsS150.alloc | apply IsS150.drewN | apply IsS150.drew | apply IsS150.set_1 | apply IsS150.set_2) | exact HI0.out)) hb); have n3_ := zA (Kept.below (S := (fun k_ => (P1_ k_) ∨ k_ = g)) (by repeat (first | (with_reducible first | exact HK.out | apply Kept.alloc | apply Kept.drewN | apply Kept.drew | refine Kept.setCell ?_ (.inl (.inr rfl)) _) | exact HK.out)) hb); have n4_ := zA (below_step (by repeat (first | (with_reducible first | exact HB.out | apply zC | apply zB | apply zF | refine zE ?_ (IsS150.ge HI0.out)) | exact HB.out)) hb); clear HO1; clear HI0; clear HK; clear HB; have HO1 := n0_; have HO1321 := n1_; have HI0 := n2_; have HK := n3_; have HB := n4_; clear n0_ n1_ n2_ n3_ n4_; clear hb ho36; have q37 : (t1316 : Int) ≤ ((l1.length : Int) : Int) := zI (by first | (with_reducible assumption) | assumption); obtain ⟨i037, hi037, _, hsz37, _⟩ := info_parts info5; have hroom37 : l1.length ≤ co33 := (yK HO1.out).2.1; have hC37 : Kd.C (Kd.int .u8) _ Ao33 l1.length l1 := (yK HO1.out).2.2; have hcut37 := cut_to (P := Try.prog) 23 5 .i64 Try.underlying23 hi037 Ao33 l1.length co33 t1316 (zI (by first | (with_reducible assumption) | assumption)) q37 hroom37; have hr37 := Kd.C_take (m := (t1316 : Int).toNat) hC37 (by omega); have hy37 : y1322.length = (t1316 : Int).toNat := (by rw [Ny1322.out, zQ]; omega); rw [← Ny1322.out] at hr37; rw [← hy37] at hcut37; have HR1325 := zA hr37; have HC1325 := zA (show y1322.length ≤ co33 from by omega); clear hr37 hC37 hroom37 hi037 hsz37; have KY37 := zA hy37; clear hy37; have KL37 := zA (show (t1316 : Int).toNat ≤ l1.length from by omega); replace q37 := eq_true q37) | ((with_reducible refine gate_builtin (b := .append) (xs := #[.tmp 15, .tmp 18]) rfl ?_); at_builtin; refine Kd.R_append_rows (Kd.int .u8) (w0 := w0) w0.heap.size rfl (.tmp 15) (.tmp 18) 23 5 (.int .u8 0) 1 rfl Try.underlying23 info5 rfl (by decide) (by omega) v1320 y1319 y1322 _ _ _ (fun k_ => (P1_ k_ ∨ w.heap.size ≤ k_) ∧ some k_ ≠ (.slice Ao33 l1.length co33 : Value).ownBlock) (fun _ => False) rfl rfl ?aO ?aR (fun _ _ h => h) (fun _ h => h.elim) ?aF ?aB ?aS ?aL ?_; (case aR => repeat (first | exact (by repeat (first | (with_reducible exact HR1325.out) | (with_reducible refine yN ?_ _) | (with_reducible refine yL ?_ _) | (with_reducible refine yM ?_) | exact HR1325.out)) | (with_reducible refine yN ?_ _) | (with_reducible refine yL ?_ _) | (with_reducible refine yM ?_))); (case aB => exact (by repeat (first | (with_reducible first | exact HB.out | apply zC | apply zB | apply zF | refine zE ?_ (IsS150.ge HI0.out)) | exact HB.out))); (case aF => exact (fun k_ hk => ⟨(.inr (Nat.le_trans (by first | exact HK.out.1 | exact (show Kept w _ (fun k_ => (P1_ k_) ∨ k_ = g) from by repeat (first | (with_reducible first | exact HK.out | apply Kept.alloc | apply Kept.drewN | apply Kept.drew | refine Kept.setCell ?_ (.inl (.inr rfl)) _) | exact HK.out)).1) hk)), Kd.fresh' (Kd.R_lt (by (with_reducible repeat (first | apply zN | apply zM | apply zO)); exact HO1.out)) k_ hk⟩)); (case aO => exact (by (with_reducible repeat (first | apply zN | apply zM | apply zO)); exact zP HO1321.out (fun _ hk => ⟨hk.1.1, hk.2⟩))); (case aS => exact (zL (by repeat (first | (with_reducible first | exact HB.out | apply zC | apply zB | apply zF | refine zE ?_ (IsS150.ge HI0.out)) | exact HB.out)))); (case aL => have := LMc8.out; omega); intro v1327 w38 ho hb hg hat; rw [← Ny1326.out] at ho; have n0_ := zA (IsS150.grown (by repeat (first | (with_reducible first | exact HI0.out | apply IsS150.alloc | apply IsS150.drewN | apply IsS150.drew | apply IsS150.set_1 | apply IsS150.set_2) | exact HI0.out)) hg (IsS150.own_ne HI0.out HO1321.out (by decide))); have n1_ := zA (Kd.R_after (ok := (fun k_ => (P1_ k_ ∨ w.heap.size ≤ k_))) (by (with_reducible repeat (first | apply zN | apply zM | apply zO)); exact HO1.out) hg hat); have n2_ := zA (hb); have n3_ := zA (Kept.of_grown (S := (fun k_ => (P1_ k_) ∨ k_ = g)) hg (by repeat (first | (with_reducible first | exact HK.out | apply Kept.alloc | apply Kept.drewN | apply Kept.drew | refine Kept.setCell ?_ (.inl (.inr rfl)) _) | exact HK.out)) (fun k_ e_ => Or.imp_left Or.inl ((HO1321.out.1 k_ e_).1.1))); have n4_ := zA ((show Kd.C (Kd.int .u8) w38 Ao33 y1322.length y1322 from by rw [Ny1322.out]; exact Kd.C_take (m := (t1316 : Int).toNat) ((yK (Kd.R_after (ok := (fun k_ => (P1_ k_ ∨ w.heap.size ≤ k_))) (by (with_reducible repeat (first | apply zN | apply zM | apply zO)); exact HO1.out) hg hat)).2.2) KL37.out)); have n5_ := zA (ho); clear HI0; clear HO1; clear HB; clear HK; clear HR1325; clear HO1321; have HI0 := n0_; have HO1 := n1_; have HB := n2_; have HK := n3_; have HR1325 := n4_; have HO1328 := n5_; clear n0_ n1_ n2_ n3_ n4_ n5_; clear ho hb hg hat) | ((with_reducible refine gate_callee (f := 85) rfl ?_); refine goesL_ (some 21) rfl rfl Try.func85 (by kernel_rfl) rfl #[.pointer (some ⟨g, 0, none⟩), .int .i64 4] rfl (by (try simp only [zU, zV, zW]); first | done | rfl | (simp only [zR, zQ]; rfl)) ?_; (with_reducible refine (spec_l01Cur_pick.calls g s0_0 t1317 t1318 4 t1329 t1330 t1331 w0 _ ?side1 ?side2 A9.out).mono ?_); (case side1 => repeat (first | (with_reducible first | exact HI0.out | apply IsS150.alloc | apply IsS150.drewN | apply IsS150.drew | apply IsS150.set_1 | apply IsS150.set_2) | exact HI0.out)); (case side2 => repeat (first | (with_reducible first | exact HB.out | apply zC | apply zB | apply zF | refine zE ?_ (IsS150.ge HI0.out)) | exact HB.out)); rintro e w39 ⟨rfl, hi, hb, hk⟩; refine ⟨_, rfl, ?_⟩; have n0_ := zA (zP (Kd.R_keep (IsS150.apart (show IsS150 w0 _ g s0_0 t1317 t1318 from by repeat (first | (with_reducible first | exact HI0.out | apply IsS150.alloc | apply IsS150.drewN | apply IsS150.drew | apply IsS150.set_1 | apply IsS150.set_2) | exact HI0.out)) (by (with_reducible repeat (first | apply zN | apply zM | apply zO)); exact HO1.out) (by decide)) hk (fun _ h => h.2)) (fun _ h => h.1)); have n1_ := zA (zP (Kd.R_keep (IsS150.apart (show IsS150 w0 _ g s0_0 t1317 t1318 from by repeat (first | (with_reducible first | exact HI0.out | apply IsS150.alloc | apply IsS150.drewN | apply IsS150.drew | apply IsS150.set_1 | apply IsS150.set_2) | exact HI0.out)) (by (with_reducible repeat (first | apply zN | apply zM | apply zO)); exact HO1328.out) (by decide)) hk (fun _ h => h.2)) (fun _ h => h.1)); have n2_ := zA (Kept.of_keep (S := (fun k_ => (P1_ k_) ∨ k_ = g)) (by repeat (first | (with_reducible first | exact HK.out | apply Kept.alloc | apply Kept.drewN | apply Kept.drew | refine Kept.setCell ?_ (.inl (.inr rfl)) _) | exact HK.out)) hk (.inl (.inr rfl))); have n3_ := zA (hb); have n4_ := zA (hi); clear HO1; clear HO1328; clear HK; clear HB; clear HI0; have HO1 := n0_; have HO1328 := n1_; have HK := n2_; have HB := n3_; have HI0 := n4_; clear n0_ n1_ n2_ n3_ n4_; (try clear hb); (try clear hb2); (try clear hk); (try clear hi)) | ((with_reducible refine gate_callee (f := 85) rfl ?_); refine goesL_ (some 34) rfl rfl Try.func85 (by kernel_rfl) rfl #[.pointer (some ⟨g, 0, none⟩), .int .i64 256] rfl (by (try simp only [zU, zV, zW]); first | done | rfl | (simp only [zR, zQ]; rfl)) ?_; (with_reducible refine (spec_l01Cur_pick.calls g s0_0 t1330 t1331 256 t1339 t1340 t1341 w0 _ ?side1 ?side2 A25.out).mono ?_); (case side1 => repeat (first | (with_reducible first | exact HI0.out | apply IsS150.alloc | apply IsS150.drewN | apply IsS150.drew | apply IsS150.set_1 | apply IsS150.set_2) | exact HI0.out)); (case side2 => repeat (first | (with_reducible first | exact HB.out | apply zC | apply zB | apply zF | refine zE ?_ (IsS150.ge HI0.out)) | exact HB.out)); rintro e w40 ⟨rfl, hi, hb, hk⟩; refine ⟨_, rfl, ?_⟩; have n0_ := zA (zP (Kd.R_keep (IsS150.apart (show IsS150 w0 _ g s0_0 t1330 t1331 from by repeat (first | (with_reducible first | exact HI0.out | apply IsS150.alloc | apply IsS150.drewN | apply IsS150.drew | apply IsS150.set_1 | apply IsS150.set_2) | exact HI0.out)) (by (with_reducible repeat (first | apply zN | apply zM | apply zO)); exact HO1.out) (by decide)) hk (fun _ h => h.2)) (fun _ h => h.1)); have n1_ := zA (zP (Kd.R_keep (IsS150.apart (show IsS150 w0 _ g s0_0 t1330 t1331 from by repeat (first | (with_reducible first | exact HI0.out | apply IsS150.alloc | apply IsS150.drewN | apply IsS150.drew | apply IsS150.set_1 | apply IsS150.set_2) | exact HI0.out)) (by (with_reducible repeat (first | apply zN | apply zM | apply zO)); exact HO1328.out) (by decide)) hk (fun _ h => h.2)) (fun _ h => h.1)); have n2_ := zA (Kept.of_keep (S := (fun k_ => (P1_ k_) ∨ k_ = g)) (by repeat (first | (with_reducible first | exact HK.out | apply Kept.alloc | apply Kept.drewN | apply Kept.drew | refine Kept.setCell ?_ (.inl (.inr rfl)) _) | exact HK.out)) hk (.inl (.inr rfl))); have n3_ := zA (hb); have n4_ := zA (hi); clear HO1; clear HO1328; clear HK; clear HB; clear HI0; have HO1 := n0_; have HO1328 := n1_; have HK := n2_; have HB := n3_; have HI0 := n4_; clear n0_ n1_ n2_ n3_ n4_; (try clear hb); (try clear hb2); (try clear hk); (try clear hi)) | ((with_reducible refine gate_dst (N := 36) rfl ?_); refine Kd.R_lit (Kd.int .u8) _ 5 ?hg (N := 36) ?hd (xs := ([255, 0, 254, 240, (t1339) % 256] : List Int)) (inner := [.int .u8 255, .int .u8 0, .int .u8 254, .int .u8 240, .int .u8 ((t1339) % 256)]) (ok := fun _ => True) (okp := fun _ => True) ?hr ?hp (fun _ hk => hk) trivial (Below.refl _ _) (Nat.le_refl _) (by simp) ?_; (case hd => rfl); (case hg => rfl); (case hr => first | (go_simp; done) | (go_simp; rfl)); (case hp => exact (Reps.one (show Kd.M (Kd.int .u8) _ _ _ 255 [.int .u8 255] from rfl) (Reps.one (show Kd.M (Kd.int .u8) _ _ _ 0 [.int .u8 0] from rfl) (Reps.one (show Kd.M (Kd.int .u8) _ _ _ 254 [.int .u8 254] from rfl) (Reps.one (show Kd.M (Kd.int .u8) _ _ _ 240 [.int .u8 240] from rfl) (Reps.one (show Kd.M (Kd.int .u8) _ _ _ ((t1339) % 256) [.int .u8 ((t1339) % 256)] from rfl) (Reps.none _ _))))))); intro v1343 w41 ho42 hb hg_ hnew_; clear hg_ hnew_; (first | rw [← Ny1342.out] at ho42 | (simp only [Int.reduceToNat] at ho42; rw [← Ny1342.out] at ho42)); have n0_ := zA (Kd.R_elder' (by (with_reducible repeat (first | apply zN | apply zM | apply zO)); exact HO1.out) (Kd.R_base ho42) hb); have n1_ := zA (Kd.R_elder' (by (with_reducible repeat (first | apply zN | apply zM | apply zO)); exact HO1328.out) (Kd.R_base ho42) hb); have n2_ := zA (Kd.R_lower (Kd.R_new' (Kd.R_new' (Kd.R_newM (M := fun k_ => (P1_ k_ ∨ w.heap.size ≤ k_)) ho42 (by first | exact HK.out.1 | exact (show Kept w _ (fun k_ => (P1_ k_) ∨ k_ = g) from by repeat (first | (with_reducible first | exact HK.out | apply Kept.alloc | apply Kept.drewN | apply Kept.drew | refine Kept.setCell ?_ (.inl (.inr rfl)) _) | exact HK.out)).1) (fun k_ h_ => .inr h_)) (Kd.R_lt (by (with_reducible repeat (first | apply zN | apply zM | apply zO)); exact HO1.out))) (Kd.R_lt (by (with_reducible repeat (first | apply zN | apply zM | apply zO)); exact HO1328.out))) (zL (by repeat (first | (with_reducible first | exact HB.out | apply zC | apply zB | apply zF | refine zE ?_ (IsS150.ge HI0.out)) | exact HB.out)))); have n3_ := zA (IsS150.below (by repeat (first | (with_reducible first | exact HI0.out | apply IsS150.alloc | apply IsS150.drewN | apply IsS150.drew | apply IsS150.set_1 | apply IsS150.set_2) | exact HI0.out)) hb); have n4_ := zA (Kept.below (S := (fun k_ => (P1_ k_) ∨ k_ = g)) (by repeat (first | (with_reducible first | exact HK.out | apply Kept.alloc | apply Kept.drewN | apply Kept.drew | refine Kept.setCell ?_ (.inl (.inr rfl)) _) | exact HK.out)) hb); have n5_ := zA (below_step (by repeat (first | (with_reducible first | exact HB.out | apply zC | apply zB | apply zF | refine zE ?_ (IsS150.ge HI0.out)) | exact HB.out)) hb); clear HO1; clear HO1328; clear HI0; clear HK; clear HB; have HO1 := n0_; have HO1328 := n1_; have HO1344 := n2_; have HI0 := n3_; have HK := n4_; have HB := n5_; clear n0_ n1_ n2_ n3_ n4_ n5_; clear hb ho42) | ((with_reducible refine gate_callee (f := 85) rfl ?_); refine goesL_ (some 38) rfl rfl Try.func85 (by kernel_rfl) rfl #[.pointer (some ⟨g, 0, none⟩), .int .i64 5] rfl (by (try simp only [zU, zV, zW]); first | done | rfl | (simp only [zR, zQ]; rfl)) ?_; (with_reducible refine (spec_l01Cur_pick.calls g s0_0 t1340 t1341 5 t1345 t1346 t1347 w0 _ ?side1 ?side2 A26.out).mono ?_); (case side1 => repeat (first | (with_reducible first | exact HI0.out | apply IsS150.alloc | apply IsS150.drewN | apply IsS150.drew | apply IsS150.set_1 | apply IsS150.set_2) | exact HI0.out)); (case side2 => repeat (first | (with_reducible first | exact HB.out | apply zC | apply zB | apply zF | refine zE ?_ (IsS150.ge HI0.out)) | exact HB.out)); rintro e w43 ⟨rfl, hi, hb, hk⟩; refine ⟨_, rfl, ?_⟩; have n0_ := zA (zP (Kd.R_keep (IsS150.apart (show IsS150 w0 _ g s0_0 t1340 t1341 from by repeat (first | (with_reducible first | exact HI0.out | apply IsS150.alloc | apply IsS150.drewN | apply IsS150.drew | apply IsS150.set_1 | apply IsS150.set_2) | exact HI0.out)) (by (with_reducible repeat (first | apply zN | apply zM | apply zO)); exact HO1.out) (by decide)) hk (fun _ h => h.2)) (fun _ h => h.1)); have n1_ := zA (zP (Kd.R_keep (IsS150.apart (show IsS150 w0 _ g s0_0 t1340 t1341 from by repeat (first | (with_reducible first | exact HI0.out | apply IsS150.alloc | apply IsS150.drewN | apply IsS150.drew | apply IsS150.set_1 | apply IsS150.set_2) | exact HI0.out)) (by (with_reducible repeat (first | apply zN | apply zM | apply zO)); exact HO1328.out) (by decide)) hk (fun _ h => h.2)) (fun _ h => h.1)); have n2_ := zA (zP (Kd.R_keep (IsS150.apart (show IsS150 w0 _ g s0_0 t1340 t1341 from by repeat (first | (with_reducible first | exact HI0.out | apply IsS150.alloc | apply IsS150.drewN | apply IsS150.drew | apply IsS150.set_1 | apply IsS150.set_2) | exact HI0.out)) (by (with_reducible repeat (first | apply zN | apply zM | apply zO)); exact HO1344.out) (by decide)) hk (fun _ h => h.2)) (fun _ h => h.1)); have n3_ := zA (Kept.of_keep (S := (fun k_ => (P1_ k_) ∨ k_ = g)) (by repeat (first | (with_reducible first | exact HK.out | apply Kept.alloc | apply Kept.drewN | apply Kept.drew | refine Kept.setCell ?_ (.inl (.inr rfl)) _) | exact HK.out)) hk (.inl (.inr rfl))); have n4_ := zA (hb); have n5_ := zA (hi); clear HO1; clear HO1328; clear HO1344; clear HK; clear HB; clear HI0; have HO1 := n0_; have HO1328 := n1_; have HO1344 := n2_; have HK := n3_; have HB := n4_; have HI0 := n5_; clear n0_ n1_ n2_ n3_ n4_ n5_; (try clear hb); (try clear hb2); (try clear hk); (try clear hi); obtain ⟨Ao44, co44, eo44⟩ := Kd.R_slice HO1344.out; subst eo44; have p1348 : 0 ≤ (t1345 : Int) := zI (by first | (with_reducible assumption) | assumption); have q1348 : t1345 < (y1342.length : Int) := zI (by first | (with_reducible assumption) | assumption); obtain ⟨ad1348, e1348, hx1348_0⟩ := Kd.at_int (yK HO1344.out).2.2 t1345 p1348 q1348; cases e1348; replace p1348 := eq_true p1348; replace q1348 := eq_true q1348) | ((with_reducible refine gate_builtin (b := .append) (xs := #[.tmp 32, .tmp 41]) rfl ?_); at_builtin; refine Kd.R_append (Kd.int .u8) (w0 := w0) w0.heap.size rfl (.tmp 32) (.tmp 41) 23 5 (.int .u8 0) 1 rfl Try.underlying23 info5 rfl (by decide) (by omega) v1327 y1326 (rd y1342 t1345) [.int .u8 (rd y1342 t1345)] (fun k_ => (P1_ k_ ∨ w.heap.size ≤ k_) ∧ some k_ ≠ (.slice Ao33 l1.length co33 : Value).ownBlock ∧ some k_ ≠ (.slice (some ad1348) y1342.length co44 : Value).ownBlock) (fun _ => False) rfl rfl ?aP (fun _ hk => hk.elim) ?aF ?aO ?aB ?aS ?aL ?_; (case aP => exact rfl); (case aB => exact (by repeat (first | (with_reducible first | exact HB.out | apply zC | apply zB | apply zF | refine zE ?_ (IsS150.ge HI0.out)) | exact HB.out))); (case aF => exact (fun k_ hk => ⟨(.inr (Nat.le_trans (by first | exact HK.out.1 | exact (show Kept w _ (fun k_ => (P1_ k_) ∨ k_ = g) from by repeat (first | (with_reducible first | exact HK.out | apply Kept.alloc | apply Kept.drewN | apply Kept.drew | refine Kept.setCell ?_ (.inl (.inr rfl)) _) | exact HK.out)).1) hk)), Kd.fresh' (Kd.R_lt (by (with_reducible repeat (first | apply zN | apply zM | apply zO)); exact HO1.out)) k_ hk, Kd.fresh' (Kd.R_lt (by (with_reducible repeat (first | apply zN | apply zM | apply zO)); exact HO1344.out)) k_ hk⟩)); (case aO => exact (by (with_reducible repeat (first | apply zN | apply zM | apply zO)); exact zP HO1328.out (fun _ hk => ⟨hk.1.1, ⟨hk.1.2, hk.2⟩⟩))); (case aS => exact (zL (by repeat (first | (with_reducible first | exact HB.out | apply zC | apply zB | apply zF | refine zE ?_ (IsS150.ge HI0.out)) | exact HB.out)))); (case aL => have := LMc29.out; omega); intro v1350 w45 ho hb hg hat; rw [← Ny1349.out] at ho; have n0_ := zA (IsS150.grown (by repeat (first | (with_reducible first | exact HI0.out | apply IsS150.alloc | apply IsS150.drewN | apply IsS150.drew | apply IsS150.set_1 | apply IsS150.set_2) | exact HI0.out)) hg (IsS150.own_ne HI0.out HO1328.out (by decide))); have n1_ := zA (Kd.R_after (ok := (fun k_ => (P1_ k_ ∨ w.heap.size ≤ k_) ∧ some k_ ≠ (.slice (some ad1348) y1342.length co44 : Value).ownBlock)) (by (with_reducible repeat (first | apply zN | apply zM | apply zO)); exact zP HO1.out (fun _ hk => ⟨⟨hk.1.1, hk.2⟩, hk.1.2⟩)) hg hat); have n2_ := zA (Kd.R_after (ok := (fun k_ => (P1_ k_ ∨ w.heap.size ≤ k_) ∧ some k_ ≠ (.slice Ao33 l1.length co33 : Value).ownBlock)) (by (with_reducible repeat (first | apply zN | apply zM | apply zO)); exact zP HO1344.out (fun _ hk => ⟨⟨hk.1.1.1, hk.1.2⟩, hk.2⟩)) hg hat); have n3_ := zA (hb); have n4_ := zA (Kept.of_grown (S := (fun k_ => (P1_ k_) ∨ k_ = g)) hg (by repeat (first | (with_reducible first | exact HK.out | apply Kept.alloc | apply Kept.drewN | apply Kept.drew | refine Kept.setCell ?_ (.inl (.inr rfl)) _) | exact HK.out)) (fun k_ e_ => Or.imp_left Or.inl ((HO1328.out.1 k_ e_).1.1))); have n5_ := zA (ho); clear HI0; clear HO1; clear HO1344; clear HB; clear HK; clear HO1328; have HI0 := n0_; have HO1 := n1_; have HO1344 := n2_; have HB := n3_; have HK := n4_; have HO1351 := n5_; clear n0_ n1_ n2_ n3_ n4_ n5_; clear ho hb hg hat; have q46 : (t1316 : Int) ≤ ((l1.length : Int) : Int) := zI (by first | (with_reducible assumption) | assumption); obtain ⟨i046, hi046, _, hsz46, _⟩ := info_parts info5; have hroom46 : l1.length ≤ co33 := (yK HO1.out).2.1; have hC46 : Kd.C (Kd.int .u8) _ Ao33 l1.length l1 := (yK HO1.out).2.2; have q046 : (0 : Int) ≤ (t1316 : Int) := zI (by first | (with_reducible assumption) | assumption); have hcut46 := cut_from (P := Try.prog) 23 5 .i64 Try.underlying23 hi046 1 hsz46 Ao33 l1.length co33 t1316 q046 q46; have hr46 := Kd.C_drop (m := (t1316 : Int).toNat) (c := co33) hC46 (by omega) hroom46; obtain ⟨A46, hA46⟩ : ∃ A1, A1 = (if co33 = (t1316 : Int).toNat then Ao33 else (Ao33 : Option Addr).map (·.add ((t1316 : Int).toNat * 1))) := ⟨_, rfl⟩; obtain ⟨c46, hc46⟩ : ∃ c1, c1 = co33 - (t1316 : Int).toNat := ⟨_, rfl⟩; have hy46 : y1352.length = l1.length - (t1316 : Int).toNat := (by rw [Ny1352.out, zR] <;> omega); rw [show (l1).drop (t1316 : Int).toNat = y1352 from Ny1352.out.symm] at hr46; replace hr46 : Kd.C (Kd.int .u8) _ A46 y1352.length y1352 := (by rw [hA46]; exact hr46); rw [← hy46, ← hA46, ← hc46] at hcut46; have HR1355 := zA hr46; have HC1355 := zA (show y1352.length ≤ c46 from by rw [hy46, hc46]; exact Nat.sub_le_sub_right hroom46 _); clear hr46 hC46 hroom46 hi046 hsz46 hc46; have KY46 := zA hy46; have KA46 := zA hA46; clear hy46 hA46; have KL46 := zA (show (t1316 : Int).toNat ≤ l1.length from by omega); replace q46 := eq_true q46) | ((with_reducible refine gate_builtin (b := .append) (xs := #[.tmp 43, .tmp 46]) rfl ?_); at_builtin; refine Kd.R_append_rows (Kd.int .u8) (w0 := w0) w0.heap.size rfl (.tmp 43) (.tmp 46) 23 5 (.int .u8 0) 1 rfl Try.underlying23 info5 rfl (by decide) (by omega) v1350 y1349 y1352 _ _ _ (fun k_ => (P1_ k_ ∨ w.heap.size ≤ k_) ∧ some k_ ≠ (.slice Ao33 l1.length co33 : Value).ownBlock ∧ some k_ ≠ (.slice (some ad1348) y1342.length co44 : Value).ownBlock) (fun _ => False) rfl rfl ?aO ?aR (fun _ _ h => h) (fun _ h => h.elim) ?aF ?aB ?aS ?aL ?_; (case aR => repeat (first | exact (by repeat (first | (with_reducible exact HR1355.out) | (with_reducible refine yN ?_ _) | (with_reducible refine yL ?_ _) | (with_reducible refine yM ?_) | exact HR1355.out)) | (with_reducible refine yN ?_ _) | (with_reducible refine yL ?_ _) | (with_reducible refine yM ?_))); (case aB => exact (by repeat (first | (with_reducible first | exact HB.out | apply zC | apply zB | apply zF | refine zE ?_ (IsS150.ge HI0.out)) | exact HB.out))); (case aF => exact (fun k_ hk => ⟨(.inr (Nat.le_trans (by first | exact HK.out.1 | exact (show Kept w _ (fun k_ => (P1_ k_) ∨ k_ = g) from by repeat (first | (with_reducible first | exact HK.out | apply Kept.alloc | apply Kept.drewN | apply Kept.drew | refine Kept.setCell ?_ (.inl (.inr rfl)) _) | exact HK.out)).1) hk)), Kd.fresh' (Kd.R_lt (by (with_reducible repeat (first | apply zN | apply zM | apply zO)); exact HO1.out)) k_ hk, Kd.fresh' (Kd.R_lt (by (with_reducible repeat (first | apply zN | apply zM | apply zO)); exact HO1344.out)) k_ hk⟩)); (case aO => exact (by (with_reducible repeat (first | apply zN | apply zM | apply zO)); exact HO1351.out)); (case aS => exact (zL (by repeat (first | (with_reducible first | exact HB.out | apply zC | apply zB | apply zF | refine zE ?_ (IsS150.ge HI0.out)) | exact HB.out)))); (case aL => have := LMc32.out; omega); intro v1357 w47 ho hb hg hat; rw [← Ny1356.out] at ho; have n0_ := zA (IsS150.grown (by repeat (first | (with_reducible first | exact HI0.out | apply IsS150.alloc | apply IsS150.drewN | apply IsS150.drew | apply IsS150.set_1 | apply IsS150.set_2) | exact HI0.out)) hg (IsS150.own_ne HI0.out HO1351.out (by decide))); have n1_ := zA (Kd.R_after (ok := (fun k_ => (P1_ k_ ∨ w.heap.size ≤ k_) ∧ some k_ ≠ (.slice (some ad1348) y1342.length co44 : Value).ownBlock)) (by (with_reducible repeat (first | apply zN | apply zM | apply zO)); exact HO1.out) hg hat); have n2_ := zA (Kd.R_after (ok := (fun k_ => (P1_ k_ ∨ w.heap.size ≤ k_) ∧ some k_ ≠ (.slice Ao33 l1.length co33 : Value).ownBlock)) (by (with_reducible repeat (first | apply zN | apply zM | apply zO)); exact HO1344.out) hg hat); have n3_ := zA (hb); have n4_ := zA (Kept.of_grown (S := (fun k_ => (P1_ k_) ∨ k_ = g)) hg (by repeat (first | (with_reducible first | exact HK.out | apply Kept.alloc | apply Kept.drewN | apply Kept.drew | refine Kept.setCell ?_ (.inl (.inr rfl)) _) | exact HK.out)) (fun k_ e_ => Or.imp_left Or.inl ((HO1351.out.1 k_ e_).1))); have n5_ := zA ((show Kd.C (Kd.int .u8) w47 A46 y1352.length y1352 from by rw [Ny1352.out, KA46.out]; exact Kd.C_drop (m := (t1316 : Int).toNat) (c := co33) ((yK (Kd.R_after (ok := (fun k_ => (P1_ k_ ∨ w.heap.size ≤ k_) ∧ some k_ ≠ (.slice (some ad1348) y1342.length co44 : Value).ownBlock)) (by (with_reducible repeat (first | apply zN | apply zM | apply zO)); exact HO1.out) hg hat)).2.2) KL46.out ((yK (Kd.R_after (ok := (fun k_ => (P1_ k_ ∨ w.heap.size ≤ k_) ∧ some k_ ≠ (.slice (some ad1348) y1342.length co44 : Value).ownBlock)) (by (with_reducible repeat (first | apply zN | apply zM | apply zO)); exact HO1.out) hg hat)).2.1))); have n6_ := zA (ho); clear HI0; clear HO1; clear HO1344; clear HB; clear HK; clear HR1355; clear HO1351; have HI0 := n0_; have HO1 := n1_; have HO1344 := n2_; have HB := n3_; have HK := n4_; have HR1355 := n5_; have HO1358 := n6_; clear n0_ n1_ n2_ n3_ n4_ n5_ n6_; clear ho hb hg hat))
           go_ret
           exact ⟨_, by first | rfl | (simp [errW_none, errW_some] <;> rfl) | (simp [*, errW_none, errW_some] <;> rfl), by (with_reducible repeat (first | apply zN | apply zM | apply zO)); exact zP HO1358.out (fun _ hk => hk.1), by repeat (first | (with_reducible first | exact HI0.out | apply IsS150.alloc | apply IsS150.drewN | apply IsS150.drew | apply IsS150.set_1 | apply IsS150.set_2) | exact HI0.out), by repeat (first | (with_reducible first | exact HB.out | apply zC | apply zB | apply zF | refine zE ?_ (IsS150.ge HI0.out)) | exact HB.out), by repeat (first | (with_reducible first | exact HK.out | apply Kept.alloc | apply Kept.drewN | apply Kept.drew | refine Kept.setCell ?_ (.inl (.inr rfl)) _) | exact HK.out)⟩
          ·rw [if_neg c32] at H
           exact absurd H (by simp)
         ·rw [if_neg c29] at H
          exact absurd H (by simp)
        ·rw [if_neg c28] at H
         exact absurd H (by simp)
       ·rw [if_neg c27] at H
        exact absurd H (by simp)
      ·rw [if_neg c24] at H
       have c24b0 : (t1329 == 1) = false := beq_eq_false_iff_ne.mpr c24
       have c24b1 : (t1329 != 1) = true := bne_iff_ne.mpr c24
       by_cases c48 : t1329 = 2
       ·rw [if_pos c48] at H
        have c48b0 : (t1329 == 2) = true := beq_iff_eq.mpr c48
        have c48b1 : (t1329 != 2) = false := bne_eq_false_iff_eq.mpr c48
        clear c48
        replace H := Option.bind_eq_some_iff.mp H
        obtain ⟨⟨t1359, t1360, t1361⟩, A490, H⟩ := H
        replace H : ((some (([255, 0, 254, 248, (t1359) % 256] : List Int) : List Int)).bind fun y1362 => ((spec_l01Cur_pick.f s0_0 t1360 t1361 5).bind fun bt1365 => (if 0 ≤ bt1365.1 then (if bt1365.1 < (y1362.length : Int) then (if y1326.length < 140737488355328 then ((some (y1326 ++ [rd y1362 bt1365.1] : List Int)).bind fun y1369 => (if 0 ≤ (wrap64 (t1316 + 1)) then (if (wrap64 (t1316 + 1)) ≤ (l1.length : Int) then ((some (l1.drop ((wrap64 (t1316 + 1)) : Int).toNat : List Int)).bind fun y1372 => (if y1369.length + y1372.length < 140737488355328 then (some ((y1369 ++ y1372), bt1365.2.1, bt1365.2.2)) else (none))) else (none)) else (none))) else (none)) else (none)) else (none)))) = some (r1, r2, r3) := H
        have A49 := zA A490
        clear A490
        obtain ⟨y1362, hy1362⟩ : ∃ y_ : List Int, y_ = (([255, 0, 254, 248, (t1359) % 256] : List Int)) := ⟨_, rfl⟩
        replace H : ((spec_l01Cur_pick.f s0_0 t1360 t1361 5).bind fun bt1365 => (if 0 ≤ bt1365.1 then (if bt1365.1 < (y1362.length : Int) then (if y1326.length < 140737488355328 then ((some (y1326 ++ [rd y1362 bt1365.1] : List Int)).bind fun y1369 => (if 0 ≤ (wrap64 (t1316 + 1)) then (if (wrap64 (t1316 + 1)) ≤ (l1.length : Int) then ((some (l1.drop ((wrap64 (t1316 + 1)) : Int).toNat : List Int)).bind fun y1372 => (if y1369.length + y1372.length < 140737488355328 then (some ((y1369 ++ y1372), bt1365.2.1, bt1365.2.2)) else (none))) else (none)) else (none))) else (none)) else (none)) else (none))) = some (r1, r2, r3) := by first | (rw [hy1362]; with_reducible exact H) | (have H2_ := (zS _ _).symm.trans H; rw [hy1362]; with_reducible exact H2_) | (have H2_ := (zS _ _).symm.trans H; with_reducible exact H2_) | with_reducible exact H | (rw [hy1362]; exact H) | exact H
        have Ny1362 := zA hy1362
        clear hy1362
        replace H := Option.bind_eq_some_iff.mp H
        obtain ⟨⟨t1365, t1366, t1367⟩, A500, H⟩ := H
        replace H : (if 0 ≤ t1365 then (if t1365 < (y1362.length : Int) then (if y1326.length < 140737488355328 then ((some (y1326 ++ [rd y1362 t1365] : List Int)).bind fun y1369 => (if 0 ≤ (wrap64 (t1316 + 1)) then (if (wrap64 (t1316 + 1)) ≤ (l1.length : Int) then ((some (l1.drop ((wrap64 (t1316 + 1)) : Int).toNat : List Int)).bind fun y1372 => (if y1369.length + y1372.length < 140737488355328 then (some ((y1369 ++ y1372), t1366, t1367)) else (none))) else (none)) else (none))) else (none)) else (none)) else (none)) = some (r1, r2, r3) := H
        have A50 := zA A500
        clear A500
        by_cases c51 : 0 ≤ t1365
        ·rw [if_pos c51] at H
         have c51b0 : decide (0 ≤ t1365) = true := zT c51
         clear c51
         by_cases c52 : t1365 < (y1362.length : Int)
         ·rw [if_pos c52] at H
          have c52b0 : decide (t1365 < (y1362.length : Int)) = true := zT c52
          clear c52
          by_cases c53 : y1326.length < 140737488355328
          ·rw [if_pos c53] at H
           have LMc53 := zA c53
           clear c53
           obtain ⟨y1369, hy1369⟩ : ∃ y_ : List Int, y_ = (y1326 ++ [rd y1362 t1365]) := ⟨_, rfl⟩
           replace H : (if 0 ≤ (wrap64 (t1316 + 1)) then (if (wrap64 (t1316 + 1)) ≤ (l1.length : Int) then ((some (l1.drop ((wrap64 (t1316 + 1)) : Int).toNat : List Int)).bind fun y1372 => (if y1369.length + y1372.length < 140737488355328 then (some ((y1369 ++ y1372), t1366, t1367)) else (none))) else (none)) else (none)) = some (r1, r2, r3) := by first | (rw [hy1369]; with_reducible exact H) | (have H2_ := (zS _ _).symm.trans H; rw [hy1369]; with_reducible exact H2_) | (have H2_ := (zS _ _).symm.trans H; with_reducible exact H2_) | with_reducible exact H | (rw [hy1369]; exact H) | exact H
           have Ny1369 := zA hy1369
           clear hy1369
           obtain ⟨ji54, hji54⟩ : ∃ j_ : Int, (wrap64 (t1316 + 1)) = j_ := ⟨_, rfl⟩
           replace H : (if 0 ≤ (ji54) then (if (ji54) ≤ (l1.length : Int) then ((some (l1.drop ((ji54) : Int).toNat : List Int)).bind fun y1372 => (if y1369.length + y1372.length < 140737488355328 then (some ((y1369 ++ y1372), t1366, t1367)) else (none))) else (none)) else (none)) = some (r1, r2, r3) := by first | (rw [hji54] at H; exact H) | (simp only [hji54] at H ⊢; exact H)
           (try rw [hji54] at A5)
           (try rw [hji54] at A9)
           (try rw [hji54] at A49)
           (try rw [hji54] at A50)
           have hji54w : (IntKind.i64.wrap (t1316 + 1)) = ji54 := (i64_w _).trans hji54
           by_cases c55 : 0 ≤ (ji54)
           ·rw [if_pos c55] at H
            have c55b0 := eq_true c55
            have c55b1 : decide (0 ≤ (ji54)) = true := zT c55
            clear c55
            by_cases c56 : (ji54) ≤ (l1.length : Int)
            ·rw [if_pos c56] at H
             have c56b0 := eq_true c56
             have c56b1 : decide ((ji54) ≤ (l1.length : Int)) = true := zT c56
             clear c56
             obtain ⟨y1372, hy1372⟩ : ∃ y_ : List Int, y_ = (l1.drop ((ji54) : Int).toNat) := ⟨_, rfl⟩
             replace H : (if y1369.length + y1372.length < 140737488355328 then (some ((y1369 ++ y1372), t1366, t1367)) else (none)) = some (r1, r2, r3) := by first | (rw [hy1372]; with_reducible exact H) | (have H2_ := (zS _ _).symm.trans H; rw [hy1372]; with_reducible exact H2_) | (have H2_ := (zS _ _).symm.trans H; with_reducible exact H2_) | with_reducible exact H | (rw [hy1372]; exact H) | exact H
             have Ny1372 := zA hy1372
             clear hy1372
             by_cases c57 : y1369.length + y1372.length < 140737488355328
             ·rw [if_pos c57] at H
              have LMc57 := zA c57
              clear c57
              obtain ⟨y1376, hy1376⟩ : ∃ y_ : List Int, y_ = (y1369 ++ y1372) := ⟨_, rfl⟩
              replace H : (some (y1376, t1366, t1367)) = some (r1, r2, r3) := by first | (rw [hy1376]; with_reducible exact H) | (have H2_ := (zS _ _).symm.trans H; rw [hy1376]; with_reducible exact H2_) | (have H2_ := (zS _ _).symm.trans H; with_reducible exact H2_) | with_reducible exact H | (rw [hy1376]; exact H) | exact H
              have Ny1376 := zA hy1376
              clear hy1376
              simp only [Option.some.injEq, Prod.mk.injEq] at H
              obtain ⟨rfl, rfl, rfl⟩ := H
              obtain ⟨Ao58, co58, eo58⟩ := Kd.R_slice HO1.out
              subst eo58
              go_enter Try.func145, Try.ntmps145
              go_wp2_with (first | ((with_reducible refine gate_callee (f := 85) rfl ?_); refine goesL_ (some 14) rfl rfl Try.func85 (by kernel_rfl) rfl #[.pointer (some ⟨g, 0, none⟩), .int .i64 (l1.length : Int)] rfl (by (try simp only [zU, zV, zW]); first | done | rfl | (simp only [zR, zQ]; rfl)) ?_; (with_reducible refine (spec_l01Cur_pick.calls g s0_0 s0_1 s0_2 (l1.length : Int) t1316 t1317 t1318 w0 _ ?side1 ?side2 A5.out).mono ?_); (case side1 => repeat (first | (with_reducible first | exact HI0.out | apply IsS150.alloc | apply IsS150.drewN | apply IsS150.drew | apply IsS150.set_1 | apply IsS150.set_2) | exact HI0.out)); (case side2 => repeat (first | (with_reducible first | exact HB.out | apply zC | apply zB | apply zF | refine zE ?_ (IsS150.ge HI0.out)) | exact HB.out)); rintro e w59 ⟨rfl, hi, hb, hk⟩; refine ⟨_, rfl, ?_⟩; have n0_ := zA (zP (Kd.R_keep (IsS150.apart (show IsS150 w0 _ g s0_0 s0_1 s0_2 from by repeat (first | (with_reducible first | exact HI0.out | apply IsS150.alloc | apply IsS150.drewN | apply IsS150.drew | apply IsS150.set_1 | apply IsS150.set_2) | exact HI0.out)) (by (with_reducible repeat (first | apply zN | apply zM | apply zO)); exact HO1.out) (by decide)) hk (fun _ h => h.2)) (fun _ h => h.1)); have n1_ := zA (Kept.of_keep (S := (fun k_ => (P1_ k_) ∨ k_ = g)) (by repeat (first | (with_reducible first | exact HK.out | apply Kept.alloc | apply Kept.drewN | apply Kept.drew | refine Kept.setCell ?_ (.inl (.inr rfl)) _) | exact HK.out)) hk (.inl (.inr rfl))); have n2_ := zA (hb); have n3_ := zA (hi); clear HO1; clear HK; clear HB; clear HI0; have HO1 := n0_; have HK := n1_; have HB := n2_; have HI0 := n3_; clear n0_ n1_ n2_ n3_; (try clear hb); (try clear hb2); (try clear hk); (try clear hi)) | ((with_reducible refine gate_dst (N := 15) rfl ?_); refine Kd.R_lit (Kd.int .u8) _ 5 ?hg (N := 15) ?hd (xs := ([] : List Int)) (inner := []) (ok := fun _ => True) (okp := fun _ => True) ?hr ?hp (fun _ hk => hk) trivial (Below.refl _ _) (Nat.le_refl _) (by simp) ?_; (case hd => rfl); (case hg => rfl); (case hr => first | (go_simp; done) | (go_simp; rfl)); (case hp => exact (Reps.none _ _)); intro v1320 w60 ho61 hb hg_ hnew_; clear hg_ hnew_; (first | rw [← Ny1319.out] at ho61 | (simp only [Int.reduceToNat] at ho61; rw [← Ny1319.out] at ho61)); have n0_ := zA (Kd.R_elder' (by (with_reducible repeat (first | apply zN | apply zM | apply zO)); exact HO1.out) (Kd.R_base ho61) hb); have n1_ := zA (Kd.R_lower (Kd.R_new' (Kd.R_newM (M := fun k_ => (P1_ k_ ∨ w.heap.size ≤ k_)) ho61 (by first | exact HK.out.1 | exact (show Kept w _ (fun k_ => (P1_ k_) ∨ k_ = g) from by repeat (first | (with_reducible first | exact HK.out | apply Kept.alloc | apply Kept.drewN | apply Kept.drew | refine Kept.setCell ?_ (.inl (.inr rfl)) _) | exact HK.out)).1) (fun k_ h_ => .inr h_)) (Kd.R_lt (by (with_reducible repeat (first | apply zN | apply zM | apply zO)); exact HO1.out))) (zL (by repeat (first | (with_reducible first | exact HB.out | apply zC | apply zB | apply zF | refine zE ?_ (IsS150.ge HI0.out)) | exact HB.out)))); have n2_ := zA (IsS150.below (by repeat (first | (with_reducible first | exact HI0.out | apply IsS150.alloc | apply IsS150.drewN | apply IsS150.drew | apply IsS150.set_1 | apply IsS150.set_2) | exact HI0.out)) hb); have n3_ := zA (Kept.below (S := (fun k_ => (P1_ k_) ∨ k_ = g)) (by repeat (first | (with_reducible first | exact HK.out | apply Kept.alloc | apply Kept.drewN | apply Kept.drew | refine Kept.setCell ?_ (.inl (.inr rfl)) _) | exact HK.out)) hb); have n4_ := zA (below_step (by repeat (first | (with_reducible first | exact HB.out | apply zC | apply zB | apply zF | refine zE ?_ (IsS150.ge HI0.out)) | exact HB.out)) hb); clear HO1; clear HI0; clear HK; clear HB; have HO1 := n0_; have HO1321 := n1_; have HI0 := n2_; have HK := n3_; have HB := n4_; clear n0_ n1_ n2_ n3_ n4_; clear hb ho61; have q62 : (t1316 : Int) ≤ ((l1.length : Int) : Int) := zI (by first | (with_reducible assumption) | assumption); obtain ⟨i062, hi062, _, hsz62, _⟩ := info_parts info5; have hroom62 : l1.length ≤ co58 := (yK HO1.out).2.1; have hC62 : Kd.C (Kd.int .u8) _ Ao58 l1.length l1 := (yK HO1.out).2.2; have hcut62 := cut_to (P := Try.prog) 23 5 .i64 Try.underlying23 hi062 Ao58 l1.length co58 t1316 (zI (by first | (with_reducible assumption) | assumption)) q62 hroom62; have hr62 := Kd.C_take (m := (t1316 : Int).toNat) hC62 (by omega); have hy62 : y1322.length = (t1316 : Int).toNat := (by rw [Ny1322.out, zQ]; omega); rw [← Ny1322.out] at hr62; rw [← hy62] at hcut62; have HR1325 := zA hr62; have HC1325 := zA (show y1322.length ≤ co58 from by omega); clear hr62 hC62 hroom62 hi062 hsz62; have KY62 := zA hy62; clear hy62; have KL62 := zA (show (t1316 : Int).toNat ≤ l1.length from by omega); replace q62 := eq_true q62) | ((with_reducible refine gate_builtin (b := .append) (xs := #[.tmp 15, .tmp 18]) rfl ?_); at_builtin; refine Kd.R_append_rows (Kd.int .u8) (w0 := w0) w0.heap.size rfl (.tmp 15) (.tmp 18) 23 5 (.int .u8 0) 1 rfl Try.underlying23 info5 rfl (by decide) (by omega) v1320 y1319 y1322 _ _ _ (fun k_ => (P1_ k_ ∨ w.heap.size ≤ k_) ∧ some k_ ≠ (.slice Ao58 l1.length co58 : Value).ownBlock) (fun _ => False) rfl rfl ?aO ?aR (fun _ _ h => h) (fun _ h => h.elim) ?aF ?aB ?aS ?aL ?_; (case aR => repeat (first | exact (by repeat (first | (with_reducible exact HR1325.out) | (with_reducible refine yN ?_ _) | (with_reducible refine yL ?_ _) | (with_reducible refine yM ?_) | exact HR1325.out)) | (with_reducible refine yN ?_ _) | (with_reducible refine yL ?_ _) | (with_reducible refine yM ?_))); (case aB => exact (by repeat (first | (with_reducible first | exact HB.out | apply zC | apply zB | apply zF | refine zE ?_ (IsS150.ge HI0.out)) | exact HB.out))); (case aF => exact (fun k_ hk => ⟨(.inr (Nat.le_trans (by first | exact HK.out.1 | exact (show Kept w _ (fun k_ => (P1_ k_) ∨ k_ = g) from by repeat (first | (with_reducible first | exact HK.out | apply Kept.alloc | apply Kept.drewN | apply Kept.drew | refine Kept.setCell ?_ (.inl (.inr rfl)) _) | exact HK.out)).1) hk)), Kd.fresh' (Kd.R_lt (by (with_reducible repeat (first | apply zN | apply zM | apply zO)); exact HO1.out)) k_ hk⟩)); (case aO => exact (by (with_reducible repeat (first | apply zN | apply zM | apply zO)); exact zP HO1321.out (fun _ hk => ⟨hk.1.1, hk.2⟩))); (case aS => exact (zL (by repeat (first | (with_reducible first | exact HB.out | apply zC | apply zB | apply zF | refine zE ?_ (IsS150.ge HI0.out)) | exact HB.out)))); (case aL => have := LMc8.out; omega); intro v1327 w63 ho hb hg hat; rw [← Ny1326.out] at ho; have n0_ := zA (IsS150.grown (by repeat (first | (with_reducible first | exact HI0.out | apply IsS150.alloc | apply IsS150.drewN | apply IsS150.drew | apply IsS150.set_1 | apply IsS150.set_2) | exact HI0.out)) hg (IsS150.own_ne HI0.out HO1321.out (by decide))); have n1_ := zA (Kd.R_after (ok := (fun k_ => (P1_ k_ ∨ w.heap.size ≤ k_))) (by (with_reducible repeat (first | apply zN | apply zM | apply zO)); exact HO1.out) hg hat); have n2_ := zA (hb); have n3_ := zA (Kept.of_grown (S := (fun k_ => (P1_ k_) ∨ k_ = g)) hg (by repeat (first | (with_reducible first | exact HK.out | apply Kept.alloc | apply Kept.drewN | apply Kept.drew | refine Kept.setCell ?_ (.inl (.inr rfl)) _) | exact HK.out)) (fun k_ e_ => Or.imp_left Or.inl ((HO1321.out.1 k_ e_).1.1))); have n4_ := zA ((show Kd.C (Kd.int .u8) w63 Ao58 y1322.length y1322 from by rw [Ny1322.out]; exact Kd.C_take (m := (t1316 : Int).toNat) ((yK (Kd.R_after (ok := (fun k_ => (P1_ k_ ∨ w.heap.size ≤ k_))) (by (with_reducible repeat (first | apply zN | apply zM | apply zO)); exact HO1.out) hg hat)).2.2) KL62.out)); have n5_ := zA (ho); clear HI0; clear HO1; clear HB; clear HK; clear HR1325; clear HO1321; have HI0 := n0_; have HO1 := n1_; have HB := n2_; have HK := n3_; have HR1325 := n4_; have HO1328 := n5_; clear n0_ n1_ n2_ n3_ n4_ n5_; clear ho hb hg hat) | ((with_reducible refine gate_callee (f := 85) rfl ?_); refine goesL_ (some 21) rfl rfl Try.func85 (by kernel_rfl) rfl #[.pointer (some ⟨g, 0, none⟩), .int .i64 4] rfl (by (try simp only [zU, zV, zW]); first | done | rfl | (simp only [zR, zQ]; rfl)) ?_; (with_reducible refine (spec_l01Cur_pick.calls g s0_0 t1317 t1318 4 t1329 t1330 t1331 w0 _ ?side1 ?side2 A9.out).mono ?_); (case side1 => repeat (first | (with_reducible first | exact HI0.out | apply IsS150.alloc | apply IsS150.drewN | apply IsS150.drew | apply IsS150.set_1 | apply IsS150.set_2) | exact HI0.out)); (case side2 => repeat (first | (with_reducible first | exact HB.out | apply zC | apply zB | apply zF | refine zE ?_ (IsS150.ge HI0.out)) | exact HB.out)); rintro e w64 ⟨rfl, hi, hb, hk⟩; refine ⟨_, rfl, ?_⟩; have n0_ := zA (zP (Kd.R_keep (IsS150.apart (show IsS150 w0 _ g s0_0 t1317 t1318 from by repeat (first | (with_reducible first | exact HI0.out | apply IsS150.alloc | apply IsS150.drewN | apply IsS150.drew | apply IsS150.set_1 | apply IsS150.set_2) | exact HI0.out)) (by (with_reducible repeat (first | apply zN | apply zM | apply zO)); exact HO1.out) (by decide)) hk (fun _ h => h.2)) (fun _ h => h.1)); have n1_ := zA (zP (Kd.R_keep (IsS150.apart (show IsS150 w0 _ g s0_0 t1317 t1318 from by repeat (first | (with_reducible first | exact HI0.out | apply IsS150.alloc | apply IsS150.drewN | apply IsS150.drew | apply IsS150.set_1 | apply IsS150.set_2) | exact HI0.out)) (by (with_reducible repeat (first | apply zN | apply zM | apply zO)); exact HO1328.out) (by decide)) hk (fun _ h => h.2)) (fun _ h => h.1)); have n2_ := zA (Kept.of_keep (S := (fun k_ => (P1_ k_) ∨ k_ = g)) (by repeat (first | (with_reducible first | exact HK.out | apply Kept.alloc | apply Kept.drewN | apply Kept.drew | refine Kept.setCell ?_ (.inl (.inr rfl)) _) | exact HK.out)) hk (.inl (.inr rfl))); have n3_ := zA (hb); have n4_ := zA (hi); clear HO1; clear HO1328; clear HK; clear HB; clear HI0; have HO1 := n0_; have HO1328 := n1_; have HK := n2_; have HB := n3_; have HI0 := n4_; clear n0_ n1_ n2_ n3_ n4_; (try clear hb); (try clear hb2); (try clear hk); (try clear hi)) | ((with_reducible refine gate_callee (f := 85) rfl ?_); refine goesL_ (some 52) rfl rfl Try.func85 (by kernel_rfl) rfl #[.pointer (some ⟨g, 0, none⟩), .int .i64 256] rfl (by (try simp only [zU, zV, zW]); first | done | rfl | (simp only [zR, zQ]; rfl)) ?_; (with_reducible refine (spec_l01Cur_pick.calls g s0_0 t1330 t1331 256 t1359 t1360 t1361 w0 _ ?side1 ?side2 A49.out).mono ?_); (case side1 => repeat (first | (with_reducible first | exact HI0.out | apply IsS150.alloc | apply IsS150.drewN | apply IsS150.drew | apply IsS150.set_1 | apply IsS150.set_2) | exact HI0.out)); (case side2 => repeat (first | (with_reducible first | exact HB.out | apply zC | apply zB | apply zF | refine zE ?_ (IsS150.ge HI0.out)) | exact HB.out)); rintro e w65 ⟨rfl, hi, hb, hk⟩; refine ⟨_, rfl, ?_⟩; have n0_ := zA (zP (Kd.R_keep (IsS150.apart (show IsS150 w0 _ g s0_0 t1330 t1331 from by repeat (first | (with_reducible first | exact HI0.out | apply IsS150.alloc | apply IsS150.drewN | apply IsS150.drew | apply IsS150.set_1 | apply IsS150.set_2) | exact HI0.out)) (by (with_reducible repeat (first | apply zN | apply zM | apply zO)); exact HO1.out) (by decide)) hk (fun _ h => h.2)) (fun _ h => h.1)); have n1_ := zA (zP (Kd.R_keep (IsS150.apart (show IsS150 w0 _ g s0_0 t1330 t1331 from by repeat (first | (with_reducible first | exact HI0.out | apply IsS150.alloc | apply IsS150.drewN | apply IsS150.drew | apply IsS150.set_1 | apply IsS150.set_2) | exact HI0.out)) (by (with_reducible repeat (first | apply zN | apply zM | apply zO)); exact HO1328.out) (by decide)) hk (fun _ h => h.2)) (fun _ h => h.1)); have n2_ := zA (Kept.of_keep (S := (fun k_ => (P1_ k_) ∨ k_ = g)) (by repeat (first | (with_reducible first | exact HK.out | apply Kept.alloc | apply Kept.drewN | apply Kept.drew | refine Kept.setCell ?_ (.inl (.inr rfl)) _) | exact HK.out)) hk (.inl (.inr rfl))); have n3_ := zA (hb); have n4_ := zA (hi); clear HO1; clear HO1328; clear HK; clear HB; clear HI0; have HO1 := n0_; have HO1328 := n1_; have HK := n2_; have HB := n3_; have HI0 := n4_; clear n0_ n1_ n2_ n3_ n4_; (try clear hb); (try clear hb2); (try clear hk); (try clear hi)) | ((with_reducible refine gate_dst (N := 54) rfl ?_); refine Kd.R_lit (Kd.int .u8) _ 5 ?hg (N := 54) ?hd (xs := ([255, 0, 254, 248, (t1359) % 256] : List Int)) (inner := [.int .u8 255, .int .u8 0, .int .u8 254, .int .u8 248, .int .u8 ((t1359) % 256)]) (ok := fun _ => True) (okp := fun _ => True) ?hr ?hp (fun _ hk => hk) trivial (Below.refl _ _) (Nat.le_refl _) (by simp) ?_; (case hd => rfl); (case hg => rfl); (case hr => first | (go_simp; done) | (go_simp; rfl)); (case hp => exact (Reps.one (show Kd.M (Kd.int .u8) _ _ _ 255 [.int .u8 255] from rfl) (Reps.one (show Kd.M (Kd.int .u8) _ _ _ 0 [.int .u8 0] from rfl) (Reps.one (show Kd.M (Kd.int .u8) _ _ _ 254 [.int .u8 254] from rfl) (Reps.one (show Kd.M (Kd.int .u8) _ _ _ 248 [.int .u8 248] from rfl) (Reps.one (show Kd.M (Kd.int .u8) _ _ _ ((t1359) % 256) [.int .u8 ((t1359) % 256)] from rfl) (Reps.none _ _))))))); intro v1363 w66 ho67 hb hg_ hnew_; clear hg_ hnew_; (first | rw [← Ny1362.out] at ho67 | (simp only [Int.reduceToNat] at ho67; rw [← Ny1362.out] at ho67)); have n0_ := zA (Kd.R_elder' (by (with_reducible repeat (first | apply zN | apply zM | apply zO)); exact HO1.out) (Kd.R_base ho67) hb); have n1_ := zA (Kd.R_elder' (by (with_reducible repeat (first | apply zN | apply zM | apply zO)); exact HO1328.out) (Kd.R_base ho67) hb); have n2_ := zA (Kd.R_lower (Kd.R_new' (Kd.R_new' (Kd.R_newM (M := fun k_ => (P1_ k_ ∨ w.heap.size ≤ k_)) ho67 (by first | exact HK.out.1 | exact (show Kept w _ (fun k_ => (P1_ k_) ∨ k_ = g) from by repeat (first | (with_reducible first | exact HK.out | apply Kept.alloc | apply Kept.drewN | apply Kept.drew | refine Kept.setCell ?_ (.inl (.inr rfl)) _) | exact HK.out)).1) (fun k_ h_ => .inr h_)) (Kd.R_lt (by (with_reducible repeat (first | apply zN | apply zM | apply zO)); exact HO1.out))) (Kd.R_lt (by (with_reducible repeat (first | apply zN | apply zM | apply zO)); exact HO1328.out))) (zL (by repeat (first | (with_reducible first | exact HB.out | apply zC | apply zB | apply zF | refine zE ?_ (IsS150.ge HI0.out)) | exact HB.out)))); have n3_ := zA (IsS150.below (by repeat (first | (with_reducible first | exact HI0.out | apply IsS150.alloc | apply IsS150.drewN | apply IsS150.drew | apply IsS150.set_1 | apply IsS150.set_2) | exact HI0.out)) hb); have n4_ := zA (Kept.below (S := (fun k_ => (P1_ k_) ∨ k_ = g)) (by repeat (first | (with_reducible first | exact HK.out | apply Kept.alloc | apply Kept.drewN | apply Kept.drew | refine Kept.setCell ?_ (.inl (.inr rfl)) _) | exact HK.out)) hb); have n5_ := zA (below_step (by repeat (first | (with_reducible first | exact HB.out | apply zC | apply zB | apply zF | refine zE ?_ (IsS150.ge HI0.out)) | exact HB.out)) hb); clear HO1; clear HO1328; clear HI0; clear HK; clear HB; have HO1 := n0_; have HO1328 := n1_; have HO1364 := n2_; have HI0 := n3_; have HK := n4_; have HB := n5_; clear n0_ n1_ n2_ n3_ n4_ n5_; clear hb ho67) | ((with_reducible refine gate_callee (f := 85) rfl ?_); refine goesL_ (some 56) rfl rfl Try.func85 (by kernel_rfl) rfl #[.pointer (some ⟨g, 0, none⟩), .int .i64 5] rfl (by (try simp only [zU, zV, zW]); first | done | rfl | (simp only [zR, zQ]; rfl)) ?_; (with_reducible refine (spec_l01Cur_pick.calls g s0_0 t1360 t1361 5 t1365 t1366 t1367 w0 _ ?side1 ?side2 A50.out).mono ?_); (case side1 => repeat (first | (with_reducible first | exact HI0.out | apply IsS150.alloc | apply IsS150.drewN | apply IsS150.drew | apply IsS150.set_1 | apply IsS150.set_2) | exact HI0.out)); (case side2 => repeat (first | (with_reducible first | exact HB.out | apply zC | apply zB | apply zF | refine zE ?_ (IsS150.ge HI0.out)) | exact HB.out)); rintro e w68 ⟨rfl, hi, hb, hk⟩; refine ⟨_, rfl, ?_⟩; have n0_ := zA (zP (Kd.R_keep (IsS150.apart (show IsS150 w0 _ g s0_0 t1360 t1361 from by repeat (first | (with_reducible first | exact HI0.out | apply IsS150.alloc | apply IsS150.drewN | apply IsS150.drew | apply IsS150.set_1 | apply IsS150.set_2) | exact HI0.out)) (by (with_reducible repeat (first | apply zN | apply zM | apply zO)); exact HO1.out) (by decide)) hk (fun _ h => h.2)) (fun _ h => h.1)); have n1_ := zA (zP (Kd.R_keep (IsS150.apart (show IsS150 w0 _ g s0_0 t1360 t1361 from by repeat (first | (with_reducible first | exact HI0.out | apply IsS150.alloc | apply IsS150.drewN | apply IsS150.drew | apply IsS150.set_1 | apply IsS150.set_2) | exact HI0.out)) (by (with_reducible repeat (first | apply zN | apply zM | apply zO)); exact HO1328.out) (by decide)) hk (fun _ h => h.2)) (fun _ h => h.1)); have n2_ := zA (zP (Kd.R_keep (IsS150.apart (show IsS150 w0 _ g s0_0 t1360 t1361 from by repeat (first | (with_reducible first | exact HI0.out | apply IsS150.alloc | apply IsS150.drewN | apply IsS150.drew | apply IsS150.set_1 | apply IsS150.set_2) | exact HI0.out)) (by (with_reducible repeat (first | apply zN | apply zM | apply zO)); exact HO1364.out) (by decide)) hk (fun _ h => h.2)) (fun _ h => h.1)); have n3_ := zA (Kept.of_keep (S := (fun k_ => (P1_ k_) ∨ k_ = g)) (by repeat (first | (with_reducible first | exact HK.out | apply Kept.alloc | apply Kept.drewN | apply Kept.drew | refine Kept.setCell ?_ (.inl (.inr rfl)) _) | exact HK.out)) hk (.inl (.inr rfl))); have n4_ := zA (hb); have n5_ := zA (hi); clear HO1; clear HO1328; clear HO1364; clear HK; clear HB; clear HI0; have HO1 := n0_; have HO1328 := n1_; have HO1364 := n2_; have HK := n3_; have HB := n4_; have HI0 := n5_; clear n0_ n1_ n2_ n3_ n4_ n5_; (try clear hb); (try clear hb2); (try clear hk); (try clear hi); obtain ⟨Ao69, co69, eo69⟩ := Kd.R_slice HO1364.out; subst eo69; have p1368 : 0 ≤ (t1365 : Int) := zI (by first | (with_reducible assumption) | assumption); have q1368 : t1365 < (y1362.length : Int) := zI (by first | (with_reducible assumption) | assumption); obtain ⟨ad1368, e1368, hx1368_0⟩ := Kd.at_int (yK HO1364.out).2.2 t1365 p1368 q1368; cases e1368; replace p1368 := eq_true p1368; replace q1368 := eq_true q1368) | ((with_reducible refine gate_builtin (b := .append) (xs := #[.tmp 50, .tmp 59]) rfl ?_); at_builtin; refine Kd.R_append (Kd.int .u8) (w0 := w0) w0.heap.size rfl (.tmp 50) (.tmp 59) 23 5 (.int .u8 0) 1 rfl Try.underlying23 info5 rfl (by decide) (by omega) v1327 y1326 (rd y1362 t1365) [.int .u8 (rd y1362 t1365)] (fun k_ => (P1_ k_ ∨ w.heap.size ≤ k_) ∧ some k_ ≠ (.slice Ao58 l1.length co58 : Value).ownBlock ∧ some k_ ≠ (.slice (some ad1368) y1362.length co69 : Value).ownBlock) (fun _ => False) rfl rfl ?aP (fun _ hk => hk.elim) ?aF ?aO ?aB ?aS ?aL ?_; (case aP => exact rfl); (case aB => exact (by repeat (first | (with_reducible first | exact HB.out | apply zC | apply zB | apply zF | refine zE ?_ (IsS150.ge HI0.out)) | exact HB.out))); (case aF => exact (fun k_ hk => ⟨(.inr (Nat.le_trans (by first | exact HK.out.1 | exact (show Kept w _ (fun k_ => (P1_ k_) ∨ k_ = g) from by repeat (first | (with_reducible first | exact HK.out | apply Kept.alloc | apply Kept.drewN | apply Kept.drew | refine Kept.setCell ?_ (.inl (.inr rfl)) _) | exact HK.out)).1) hk)), Kd.fresh' (Kd.R_lt (by (with_reducible repeat (first | apply zN | apply zM | apply zO)); exact HO1.out)) k_ hk, Kd.fresh' (Kd.R_lt (by (with_reducible repeat (first | apply zN | apply zM | apply zO)); exact HO1364.out)) k_ hk⟩)); (case aO => exact (by (with_reducible repeat (first | apply zN | apply zM | apply zO)); exact zP HO1328.out (fun _ hk => ⟨hk.1.1, ⟨hk.1.2, hk.2⟩⟩))); (case aS => exact (zL (by repeat (first | (with_reducible first | exact HB.out | apply zC | apply zB | apply zF | refine zE ?_ (IsS150.ge HI0.out)) | exact HB.out)))); (case aL => have := LMc53.out; omega); intro v1370 w70 ho hb hg hat; rw [← Ny1369.out] at ho; have n0_ := zA (IsS150.grown (by repeat (first | (with_reducible first | exact HI0.out | apply IsS150.alloc | apply IsS150.drewN | apply IsS150.drew | apply IsS150.set_1 | apply IsS150.set_2) | exact HI0.out)) hg (IsS150.own_ne HI0.out HO1328.out (by decide))); have n1_ := zA (Kd.R_after (ok := (fun k_ => (P1_ k_ ∨ w.heap.size ≤ k_) ∧ some k_ ≠ (.slice (some ad1368) y1362.length co69 : Value).ownBlock)) (by (with_reducible repeat (first | apply zN | apply zM | apply zO)); exact zP HO1.out (fun _ hk => ⟨⟨hk.1.1, hk.2⟩, hk.1.2⟩)) hg hat); have n2_ := zA (Kd.R_after (ok := (fun k_ => (P1_ k_ ∨ w.heap.size ≤ k_) ∧ some k_ ≠ (.slice Ao58 l1.length co58 : Value).ownBlock)) (by (with_reducible repeat (first | apply zN | apply zM | apply zO)); exact zP HO1364.out (fun _ hk => ⟨⟨hk.1.1.1, hk.1.2⟩, hk.2⟩)) hg hat); have n3_ := zA (hb); have n4_ := zA (Kept.of_grown (S := (fun k_ => (P1_ k_) ∨ k_ = g)) hg (by repeat (first | (with_reducible first | exact HK.out | apply Kept.alloc | apply Kept.drewN | apply Kept.drew | refine Kept.setCell ?_ (.inl (.inr rfl)) _) | exact HK.out)) (fun k_ e_ => Or.imp_left Or.inl ((HO1328.out.1 k_ e_).1.1))); have n5_ := zA (ho); clear HI0; clear HO1; clear HO1364; clear HB; clear HK; clear HO1328; have HI0 := n0_; have HO1 := n1_; have HO1364 := n2_; have HB := n3_; have HK := n4_; have HO1371 := n5_; clear n0_ n1_ n2_ n3_ n4_ n5_; clear ho hb hg hat; have q71 : ((ji54) : Int) ≤ ((l1.length : Int) : Int) := zI (by first | (with_reducible assumption) | assumption); obtain ⟨i071, hi071, _, hsz71, _⟩ := info_parts info5; have hroom71 : l1.length ≤ co58 := (yK HO1.out).2.1; have hC71 : Kd.C (Kd.int .u8) _ Ao58 l1.length l1 := (yK HO1.out).2.2; have q071 : (0 : Int) ≤ ((ji54) : Int) := zI (by first | (with_reducible assumption) | assumption); have hcut71 := cut_from (P := Try.prog) 23 5 .i64 Try.underlying23 hi071 1 hsz71 Ao58 l1.length co58 (ji54) q071 q71; have hr71 := Kd.C_drop (m := ((ji54) : Int).toNat) (c := co58) hC71 (by omega) hroom71; obtain ⟨A71, hA71⟩ : ∃ A1, A1 = (if co58 = ((ji54) : Int).toNat then Ao58 else (Ao58 : Option Addr).map (·.add (((ji54) : Int).toNat * 1))) := ⟨_, rfl⟩; obtain ⟨c71, hc71⟩ : ∃ c1, c1 = co58 - ((ji54) : Int).toNat := ⟨_, rfl⟩; have hy71 : y1372.length = l1.length - ((ji54) : Int).toNat := (by rw [Ny1372.out, zR] <;> omega); rw [show (l1).drop ((ji54) : Int).toNat = y1372 from Ny1372.out.symm] at hr71; replace hr71 : Kd.C (Kd.int .u8) _ A71 y1372.length y1372 := (by rw [hA71]; exact hr71); rw [← hy71, ← hA71, ← hc71] at hcut71; have HR1375 := zA hr71; have HC1375 := zA (show y1372.length ≤ c71 from by rw [hy71, hc71]; exact Nat.sub_le_sub_right hroom71 _); clear hr71 hC71 hroom71 hi071 hsz71 hc71; have KY71 := zA hy71; have KA71 := zA hA71; clear hy71 hA71; have KL71 := zA (show ((ji54) : Int).toNat ≤ l1.length from by omega); replace q71 := eq_true q71) | ((with_reducible refine gate_builtin (b := .append) (xs := #[.tmp 61, .tmp 65]) rfl ?_); at_builtin; refine Kd.R_append_rows (Kd.int .u8) (w0 := w0) w0.heap.size rfl (.tmp 61) (.tmp 65) 23 5 (.int .u8 0) 1 rfl Try.underlying23 info5 rfl (by decide) (by omega) v1370 y1369 y1372 _ _ _ (fun k_ => (P1_ k_ ∨ w.heap.size ≤ k_) ∧ some k_ ≠ (.slice Ao58 l1.length co58 : Value).ownBlock ∧ some k_ ≠ (.slice (some ad1368) y1362.length co69 : Value).ownBlock) (fun _ => False) rfl rfl ?aO ?aR (fun _ _ h => h) (fun _ h => h.elim) ?aF ?aB ?aS ?aL ?_; (case aR => repeat (first | exact (by repeat (first | (with_reducible exact HR1375.out) | (with_reducible refine yN ?_ _) | (with_reducible refine yL ?_ _) | (with_reducible refine yM ?_) | exact HR1375.out)) | (with_reducible refine yN ?_ _) | (with_reducible refine yL ?_ _) | (with_reducible refine yM ?_))); (case aB => exact (by repeat (first | (with_reducible first | exact HB.out | apply zC | apply zB | apply zF | refine zE ?_ (IsS150.ge HI0.out)) | exact HB.out))); (case aF => exact (fun k_ hk => ⟨(.inr (Nat.le_trans (by first | exact HK.out.1 | exact (show Kept w _ (fun k_ => (P1_ k_) ∨ k_ = g) from by repeat (first | (with_reducible first | exact HK.out | apply Kept.alloc | apply Kept.drewN | apply Kept.drew | refine Kept.setCell ?_ (.inl (.inr rfl)) _) | exact HK.out)).1) hk)), Kd.fresh' (Kd.R_lt (by (with_reducible repeat (first | apply zN | apply zM | apply zO)); exact HO1.out)) k_ hk, Kd.fresh' (Kd.R_lt (by (with_reducible repeat (first | apply zN | apply zM | apply zO)); exact HO1364.out)) k_ hk⟩)); (case aO => exact (by (with_reducible repeat (first | apply zN | apply zM | apply zO)); exact HO1371.out)); (case aS => exact (zL (by repeat (first | (with_reducible first | exact HB.out | apply zC | apply zB | apply zF | refine zE ?_ (IsS150.ge HI0.out)) | exact HB.out)))); (case aL => have := LMc57.out; omega); intro v1377 w72 ho hb hg hat; rw [← Ny1376.out] at ho; have n0_ := zA (IsS150.grown (by repeat (first | (with_reducible first | exact HI0.out | apply IsS150.alloc | apply IsS150.drewN | apply IsS150.drew | apply IsS150.set_1 | apply IsS150.set_2) | exact HI0.out)) hg (IsS150.own_ne HI0.out HO1371.out (by decide))); have n1_ := zA (Kd.R_after (ok := (fun k_ => (P1_ k_ ∨ w.heap.size ≤ k_) ∧ some k_ ≠ (.slice (some ad1368) y1362.length co69 : Value).ownBlock)) (by (with_reducible repeat (first | apply zN | apply zM | apply zO)); exact HO1.out) hg hat); have n2_ := zA (Kd.R_after (ok := (fun k_ => (P1_ k_ ∨ w.heap.size ≤ k_) ∧ some k_ ≠ (.slice Ao58 l1.length co58 : Value).ownBlock)) (by (with_reducible repeat (first | apply zN | apply zM | apply zO)); exact HO1364.out) hg hat); have n3_ := zA (hb); have n4_ := zA (Kept.of_grown (S := (fun k_ => (P1_ k_) ∨ k_ = g)) hg (by repeat (first | (with_reducible first | exact HK.out | apply Kept.alloc | apply Kept.drewN | apply Kept.drew | refine Kept.setCell ?_ (.inl (.inr rfl)) _) | exact HK.out)) (fun k_ e_ => Or.imp_left Or.inl ((HO1371.out.1 k_ e_).1))); have n5_ := zA ((show Kd.C (Kd.int .u8) w72 A71 y1372.length y1372 from by rw [Ny1372.out, KA71.out]; exact Kd.C_drop (m := ((ji54) : Int).toNat) (c := co58) ((yK (Kd.R_after (ok := (fun k_ => (P1_ k_ ∨ w.heap.size ≤ k_) ∧ some k_ ≠ (.slice (some ad1368) y1362.length co69 : Value).ownBlock)) (by (with_reducible repeat (first | apply zN | apply zM | apply zO)); exact HO1.out) hg hat)).2.2) KL71.out ((yK (Kd.R_after (ok := (fun k_ => (P1_ k_ ∨ w.heap.size ≤ k_) ∧ some k_ ≠ (.slice (some ad1368) y1362.length co69 : Value).ownBlock)) (by (with_reducible repeat (first | apply zN | apply zM | apply zO)); exact HO1.out) hg hat)).2.1))); have n6_ := zA (ho); clear HI0; clear HO1; clear HO1364; clear HB; clear HK; clear HR1375; clear HO1371; have HI0 := n0_; have HO1 := n1_; have HO1364 := n2_; have HB := n3_; have HK := n4_; have HR1375 := n5_; have HO1378 := n6_; clear n0_ n1_ n2_ n3_ n4_ n5_ n6_; clear ho hb hg hat))
              go_ret
              exact ⟨_, by first | rfl | (simp [errW_none, errW_some] <;> rfl) | (simp only [← hji54]; first | rfl | (simp [errW_none, errW_some] <;> rfl)) | (simp [*, errW_none, errW_some] <;> rfl), by (with_reducible repeat (first | apply zN | apply zM | apply zO)); exact zP HO1378.out (fun _ hk => hk.1), by repeat (first | (with_reducible first | exact HI0.out | apply IsS150.alloc | apply IsS150.drewN | apply IsS150.drew | apply IsS150.set_1 | apply IsS150.set_2) | exact HI0.out), by repeat (first | (with_reducible first | exact HB.out | apply zC | apply zB | apply zF | refine zE ?_ (IsS150.ge HI0.out)) | exact HB.out), by repeat (first | (with_reducible first | exact HK.out | apply Kept.alloc | apply Kept.drewN | apply Kept.drew | refine Kept.setCell ?_ (.inl (.inr rfl)) _) | exact HK.out)⟩
             ·rw [if_neg c57] at H
              exact absurd H (by simp)
            ·rw [if_neg c56] at H
             exact absurd H (by simp)
           ·rw [if_neg c55] at H
            exact absurd H (by simp)
          ·rw [if_neg c53] at H
           exact absurd H (by simp)
         ·rw [if_neg c52] at H
          exact absurd H (by simp)
        ·rw [if_neg c51] at H
         exact absurd H (by simp)
       ·rw [if_neg c48] at H
        have c48b0 : (t1329 == 2) = false := beq_eq_false_iff_ne.mpr c48
        have c48b1 : (t1329 != 2) = true := bne_iff_ne.mpr c48
        simp only [Option.some.injEq, Prod.mk.injEq] at H
        obtain ⟨rfl, rfl, rfl⟩ := H
        obtain ⟨Ao73, co73, eo73⟩ := Kd.R_slice HO1.out
        subst eo73
        go_enter Try.func145, Try.ntmps145
        go_wp2_with (first | ((with_reducible refine gate_callee (f := 85) rfl ?_); refine goesL_ (some 14) rfl rfl Try.func85 (by kernel_rfl) rfl #[.pointer (some ⟨g, 0, none⟩), .int .i64 (l1.length : Int)] rfl (by (try simp only [zU, zV, zW]); first | done | rfl | (simp only [zR, zQ]; rfl)) ?_; (with_reducible refine (spec_l01Cur_pick.calls g s0_0 s0_1 s0_2 (l1.length : Int) t1316 t1317 t1318 w0 _ ?side1 ?side2 A5.out).mono ?_); (case side1 => repeat (first | (with_reducible first | exact HI0.out | apply IsS150.alloc | apply IsS150.drewN | apply IsS150.drew | apply IsS150.set_1 | apply IsS150.set_2) | exact HI0.out)); (case side2 => repeat (first | (with_reducible first | exact HB.out | apply zC | apply zB | apply zF | refine zE ?_ (IsS150.ge HI0.out)) | exact HB.out)); rintro e w74 ⟨rfl, hi, hb, hk⟩; refine ⟨_, rfl, ?_⟩; have n0_ := zA (zP (Kd.R_keep (IsS150.apart (show IsS150 w0 _ g s0_0 s0_1 s0_2 from by repeat (first | (with_reducible first | exact HI0.out | apply IsS150.alloc | apply IsS150.drewN | apply IsS150.drew | apply IsS150.set_1 | apply IsS150.set_2) | exact HI0.out)) (by (with_reducible repeat (first | apply zN | apply zM | apply zO)); exact HO1.out) (by decide)) hk (fun _ h => h.2)) (fun _ h => h.1)); have n1_ := zA (Kept.of_keep (S := (fun k_ => (P1_ k_) ∨ k_ = g)) (by repeat (first | (with_reducible first | exact HK.out | apply Kept.alloc | apply Kept.drewN | apply Kept.drew | refine Kept.setCell ?_ (.inl (.inr rfl)) _) | exact HK.out)) hk (.inl (.inr rfl))); have n2_ := zA (hb); have n3_ := zA (hi); clear HO1; clear HK; clear HB; clear HI0; have HO1 := n0_; have HK := n1_; have HB := n2_; have HI0 := n3_; clear n0_ n1_ n2_ n3_; (try clear hb); (try clear hb2); (try clear hk); (try clear hi)) | ((with_reducible refine gate_dst (N := 15) rfl ?_); refine Kd.R_lit (Kd.int .u8) _ 5 ?hg (N := 15) ?hd (xs := ([] : List Int)) (inner := []) (ok := fun _ => True) (okp := fun _ => True) ?hr ?hp (fun _ hk => hk) trivial (Below.refl _ _) (Nat.le_refl _) (by simp) ?_; (case hd => rfl); (case hg => rfl); (case hr => first | (go_simp; done) | (go_simp; rfl)); (case hp => exact (Reps.none _ _)); intro v1320 w75 ho76 hb hg_ hnew_; clear hg_ hnew_; (first | rw [← Ny1319.out] at ho76 | (simp only [Int.reduceToNat] at ho76; rw [← Ny1319.out] at ho76)); have n0_ := zA (Kd.R_elder' (by (with_reducible repeat (first | apply zN | apply zM | apply zO)); exact HO1.out) (Kd.R_base ho76) hb); have n1_ := zA (Kd.R_lower (Kd.R_new' (Kd.R_newM (M := fun k_ => (P1_ k_ ∨ w.heap.size ≤ k_)) ho76 (by first | exact HK.out.1 | exact (show Kept w _ (fun k_ => (P1_ k_) ∨ k_ = g) from by repeat (first | (with_reducible first | exact HK.out | apply Kept.alloc | apply Kept.drewN | apply Kept.drew | refine Kept.setCell ?_ (.inl (.inr rfl)) _) | exact HK.out)).1) (fun k_ h_ => .inr h_)) (Kd.R_lt (by (with_reducible repeat (first | apply zN | apply zM | apply zO)); exact HO1.out))) (zL (by repeat (first | (with_reducible first | exact HB.out | apply zC | apply zB | apply zF | refine zE ?_ (IsS150.ge HI0.out)) | exact HB.out)))); have n2_ := zA (IsS150.below (by repeat (first | (with_reducible first | exact HI0.out | apply IsS150.alloc | apply IsS150.drewN | apply IsS150.drew | apply IsS150.set_1 | apply IsS150.set_2) | exact HI0.out)) hb); have n3_ := zA (Kept.below (S := (fun k_ => (P1_ k_) ∨ k_ = g)) (by repeat (first | (with_reducible first | exact HK.out | apply Kept.alloc | apply Kept.drewN | apply Kept.drew | refine Kept.setCell ?_ (.inl (.inr rfl)) _) | exact HK.out)) hb); have n4_ := zA (below_step (by repeat (first | (with_reducible first | exact HB.out | apply zC | apply zB | apply zF | refine zE ?_ (IsS150.ge HI0.out)) | exact HB.out)) hb); clear HO1; clear HI0; clear HK; clear HB; have HO1 := n0_; have HO1321 := n1_; have HI0 := n2_; have HK := n3_; have HB := n4_; clear n0_ n1_ n2_ n3_ n4_; clear hb ho76; have q77 : (t1316 : Int) ≤ ((l1.length : Int) : Int) := zI (by first | (with_reducible assumption) | assumption); obtain ⟨i077, hi077, _, hsz77, _⟩ := info_parts info5; have hroom77 : l1.length ≤ co73 := (yK HO1.out).2.1; have hC77 : Kd.C (Kd.int .u8) _ Ao73 l1.length l1 := (yK HO1.out).2.2; have hcut77 := cut_to (P := Try.prog) 23 5 .i64 Try.underlying23 hi077 Ao73 l1.length co73 t1316 (zI (by first | (with_reducible assumption) | assumption)) q77 hroom77; have hr77 := Kd.C_take (m := (t1316 : Int).toNat) hC77 (by omega); have hy77 : y1322.length = (t1316 : Int).toNat := (by rw [Ny1322.out, zQ]; omega); rw [← Ny1322.out] at hr77; rw [← hy77] at hcut77; have HR1325 := zA hr77; have HC1325 := zA (show y1322.length ≤ co73 from by omega); clear hr77 hC77 hroom77 hi077 hsz77; have KY77 := zA hy77; clear hy77; have KL77 := zA (show (t1316 : Int).toNat ≤ l1.length from by omega); replace q77 := eq_true q77) | ((with_reducible refine gate_builtin (b := .append) (xs := #[.tmp 15, .tmp 18]) rfl ?_); at_builtin; refine Kd.R_append_rows (Kd.int .u8) (w0 := w0) w0.heap.size rfl (.tmp 15) (.tmp 18) 23 5 (.int .u8 0) 1 rfl Try.underlying23 info5 rfl (by decide) (by omega) v1320 y1319 y1322 _ _ _ (fun k_ => (P1_ k_ ∨ w.heap.size ≤ k_) ∧ some k_ ≠ (.slice Ao73 l1.length co73 : Value).ownBlock) (fun _ => False) rfl rfl ?aO ?aR (fun _ _ h => h) (fun _ h => h.elim) ?aF ?aB ?aS ?aL ?_; (case aR => repeat (first | exact (by repeat (first | (with_reducible exact HR1325.out) | (with_reducible refine yN ?_ _) | (with_reducible refine yL ?_ _) | (with_reducible refine yM ?_) | exact HR1325.out)) | (with_reducible refine yN ?_ _) | (with_reducible refine yL ?_ _) | (with_reducible refine yM ?_))); (case aB => exact (by repeat (first | (with_reducible first | exact HB.out | apply zC | apply zB | apply zF | refine zE ?_ (IsS150.ge HI0.out)) | exact HB.out))); (case aF => exact (fun k_ hk => ⟨(.inr (Nat.le_trans (by first | exact HK.out.1 | exact (show Kept w _ (fun k_ => (P1_ k_) ∨ k_ = g) from by repeat (first | (with_reducible first | exact HK.out | apply Kept.alloc | apply Kept.drewN | apply Kept.drew | refine Kept.setCell ?_ (.inl (.inr rfl)) _) | exact HK.out)).1) hk)), Kd.fresh' (Kd.R_lt (by (with_reducible repeat (first | apply zN | apply zM | apply zO)); exact HO1.out)) k_ hk⟩)); (case aO => exact (by (with_reducible repeat (first | apply zN | apply zM | apply zO)); exact zP HO1321.out (fun _ hk => ⟨hk.1.1, hk.2⟩))); (case aS => exact (zL (by repeat (first | (with_reducible first | exact HB.out | apply zC | apply zB | apply zF | refine zE ?_ (IsS150.ge HI0.out)) | exact HB.out)))); (case aL => have := LMc8.out; omega); intro v1327 w78 ho hb hg hat; rw [← Ny1326.out] at ho; have n0_ := zA (IsS150.grown (by repeat (first | (with_reducible first | exact HI0.out | apply IsS150.alloc | apply IsS150.drewN | apply IsS150.drew | apply IsS150.set_1 | apply IsS150.set_2) | exact HI0.out)) hg (IsS150.own_ne HI0.out HO1321.out (by decide))); have n1_ := zA (Kd.R_after (ok := (fun k_ => (P1_ k_ ∨ w.heap.size ≤ k_))) (by (with_reducible repeat (first | apply zN | apply zM | apply zO)); exact HO1.out) hg hat); have n2_ := zA (hb); have n3_ := zA (Kept.of_grown (S := (fun k_ => (P1_ k_) ∨ k_ = g)) hg (by repeat (first | (with_reducible first | exact HK.out | apply Kept.alloc | apply Kept.drewN | apply Kept.drew | refine Kept.setCell ?_ (.inl (.inr rfl)) _) | exact HK.out)) (fun k_ e_ => Or.imp_left Or.inl ((HO1321.out.1 k_ e_).1.1))); have n4_ := zA ((show Kd.C (Kd.int .u8) w78 Ao73 y1322.length y1322 from by rw [Ny1322.out]; exact Kd.C_take (m := (t1316 : Int).toNat) ((yK (Kd.R_after (ok := (fun k_ => (P1_ k_ ∨ w.heap.size ≤ k_))) (by (with_reducible repeat (first | apply zN | apply zM | apply zO)); exact HO1.out) hg hat)).2.2) KL77.out)); have n5_ := zA (ho); clear HI0; clear HO1; clear HB; clear HK; clear HR1325; clear HO1321; have HI0 := n0_; have HO1 := n1_; have HB := n2_; have HK := n3_; have HR1325 := n4_; have HO1328 := n5_; clear n0_ n1_ n2_ n3_ n4_ n5_; clear ho hb hg hat) | ((with_reducible refine gate_callee (f := 85) rfl ?_); refine goesL_ (some 21) rfl rfl Try.func85 (by kernel_rfl) rfl #[.pointer (some ⟨g, 0, none⟩), .int .i64 4] rfl (by (try simp only [zU, zV, zW]); first | done | rfl | (simp only [zR, zQ]; rfl)) ?_; (with_reducible refine (spec_l01Cur_pick.calls g s0_0 t1317 t1318 4 t1329 t1330 t1331 w0 _ ?side1 ?side2 A9.out).mono ?_); (case side1 => repeat (first | (with_reducible first | exact HI0.out | apply IsS150.alloc | apply IsS150.drewN | apply IsS150.drew | apply IsS150.set_1 | apply IsS150.set_2) | exact HI0.out)); (case side2 => repeat (first | (with_reducible first | exact HB.out | apply zC | apply zB | apply zF | refine zE ?_ (IsS150.ge HI0.out)) | exact HB.out)); rintro e w79 ⟨rfl, hi, hb, hk⟩; refine ⟨_, rfl, ?_⟩; have n0_ := zA (zP (Kd.R_keep (IsS150.apart (show IsS150 w0 _ g s0_0 t1317 t1318 from by repeat (first | (with_reducible first | exact HI0.out | apply IsS150.alloc | apply IsS150.drewN | apply IsS150.drew | apply IsS150.set_1 | apply IsS150.set_2) | exact HI0.out)) (by (with_reducible repeat (first | apply zN | apply zM | apply zO)); exact HO1.out) (by decide)) hk (fun _ h => h.2)) (fun _ h => h.1)); have n1_ := zA (zP (Kd.R_keep (IsS150.apart (show IsS150 w0 _ g s0_0 t1317 t1318 from by repeat (first | (with_reducible first | exact HI0.out | apply IsS150.alloc | apply IsS150.drewN | apply IsS150.drew | apply IsS150.set_1 | apply IsS150.set_2) | exact HI0.out)) (by (with_reducible repeat (first | apply zN | apply zM | apply zO)); exact HO1328.out) (by decide)) hk (fun _ h => h.2)) (fun _ h => h.1)); have n2_ := zA (Kept.of_keep (S := (fun k_ => (P1_ k_) ∨ k_ = g)) (by repeat (first | (with_reducible first | exact HK.out | apply Kept.alloc | apply Kept.drewN | apply Kept.drew | refine Kept.setCell ?_ (.inl (.inr rfl)) _) | exact HK.out)) hk (.inl (.inr rfl))); have n3_ := zA (hb); have n4_ := zA (hi); clear HO1; clear HO1328; clear HK; clear HB; clear HI0; have HO1 := n0_; have HO1328 := n1_; have HK := n2_; have HB := n3_; have HI0 := n4_; clear n0_ n1_ n2_ n3_ n4_; (try clear hb); (try clear hb2); (try clear hk); (try clear hi)))
        go_ret
        exact ⟨_, by first | rfl | (simp [errW_none, errW_some] <;> rfl) | (simp [*, errW_none, errW_some] <;> rfl), by (with_reducible repeat (first | apply zN | apply zM | apply zO)); exact zP HO1328.out (fun _ hk => hk.1), by repeat (first | (with_reducible first | exact HI0.out | apply IsS150.alloc | apply IsS150.drewN | apply IsS150.drew | apply IsS150.set_1 | apply IsS150.set_2) | exact HI0.out), by repeat (first | (with_reducible first | exact HB.out | apply zC | apply zB | apply zF | refine zE ?_ (IsS150.ge HI0.out)) | exact HB.out), by repeat (first | (with_reducible first | exact HK.out | apply Kept.alloc | apply Kept.drewN | apply Kept.drew | refine Kept.setCell ?_ (.inl (.inr rfl)) _) | exact HK.out)⟩
    ·rw [if_neg c8] at H
     exact absurd H (by simp)
   ·rw [if_neg c7] at H
    exact absurd H (by simp)
  ·rw [if_neg c6] at H
   exact absurd H (by simp)
theorem BytesL.take {a : List Int} (h : BytesL a) (n : Nat) : BytesL (a.take n) := fun y hy => h y (List.mem_of_mem_take hy)
theorem BytesL.drop {a : List Int} (h : BytesL a) (n : Nat) : BytesL (a.drop n) := fun y hy => h y (List.mem_of_mem_drop hy)
theorem spec_l02Spoil.ev (c l : List Int) (hb : BytesL l) (hl : l.length ≤ 60000) (m : Nat) (a s : Int) (hc : CurAt c m a s) (hm : m ≤ 100000) : EvP (fun _ => spec_l02Spoil.f c a s l) (fun r => CurAt c (m + 10) r.2.1 r.2.2 ∧ BytesL r.1 ∧ r.1.length ≤ 60001) := by
 unfold spec_l02Spoil.f
 refine EvP.either (fun _ => EvP.now ⟨show CurAt c (m + 10) a s from hc.up (by omega), hb, show l.length ≤ 60001 by omega⟩) (fun hz => ?_)
 refine hc.pick (by omega) (l.length : Int) (fun v a1 s1 h0 h1 hc1 => ?_)
 have hv : v < l.length := by omega
 refine EvP.some ?_
 refine EvP.ip h0 ?_
 refine EvP.ip (show v ≤ l.length by omega) ?_
 refine EvP.some ?_
 have htl : (l.take v.toNat).length ≤ l.length := by rw [zQ]; omega
 refine EvP.ip (by simp; omega) ?_
 refine EvP.some ?_
 have ht : BytesL ([] ++ l.take v.toNat) := BytesL.nil.app (hb.take _)
 have htl2 : ([] ++ l.take v.toNat).length + (l.drop v.toNat).length = l.length := by simp; omega
 have hw : wrap64 (v + 1) = v + 1 := wrap_in _ (by omega) (by omega)
 have hdl : (l.drop (v + 1).toNat).length + 1 = (l.drop v.toNat).length := by rw [zR, zR]; omega
 simp only []
 rw [hw]
 generalize [] ++ l.take v.toNat = T at ht htl2 ⊢
 refine hc1.pick (by omega) 4 (fun v2 a2 s2 h2 h3 hc2 => ?_)
 refine EvP.either (fun _ => ?_) (fun _ => EvP.either (fun _ => ?_) (fun _ => EvP.either (fun _ => ?_) (fun _ => ?_)))
 ·refine EvP.ip (by omega) ?_
  refine EvP.ip (by omega) ?_
  refine EvP.some ?_
  refine EvP.ip (by omega) ?_
  exact EvP.now ⟨hc2.up (by omega), ht.app (hb.drop _), by rw [zX]; omega⟩
 ·refine hc2.pick (by omega) 256 (fun v3 a3 s3 h4 h5 hc3 => ?_)
  refine EvP.some ?_
  refine hc3.pick (by omega) 5 (fun v4 a4 s4 h6 h7 hc4 => ?_)
  have h4b : BytesL [255, 0, 254, 240, v3 % 256] := by
   intro y hy
   simp only [List.mem_cons, List.not_mem_nil, or_false] at hy
   rcases hy with rfl | rfl | rfl | rfl | rfl <;> omega
  refine EvP.ip h6 ?_
  refine EvP.ip (show v4 < 5 by omega) ?_
  refine EvP.ip (by omega) ?_
  refine EvP.some ?_
  refine EvP.some ?_
  refine EvP.ip (by simp only [zX, List.length_cons, List.length_nil]; omega) ?_
  exact EvP.now ⟨hc4.up (by omega), (ht.app (BytesL.one (h4b.rd v4))).app (hb.drop _), by simp only [zX, List.length_cons, List.length_nil]; omega⟩
 ·refine hc2.pick (by omega) 256 (fun v3 a3 s3 h4 h5 hc3 => ?_)
  refine EvP.some ?_
  refine hc3.pick (by omega) 5 (fun v4 a4 s4 h6 h7 hc4 => ?_)
  have h4b : BytesL [255, 0, 254, 248, v3 % 256] := by
   intro y hy
   simp only [List.mem_cons, List.not_mem_nil, or_false] at hy
   rcases hy with rfl | rfl | rfl | rfl | rfl <;> omega
  refine EvP.ip h6 ?_
  refine EvP.ip (show v4 < 5 by omega) ?_
  refine EvP.ip (by omega) ?_
  refine EvP.some ?_
  refine EvP.ip (by omega) ?_
  refine EvP.ip (by omega) ?_
  refine EvP.some ?_
  refine EvP.ip (by simp only [zX, List.length_cons, List.length_nil]; omega) ?_
  exact EvP.now ⟨hc4.up (by omega), (ht.app (BytesL.one (h4b.rd v4))).app (hb.drop _), by simp only [zX, List.length_cons, List.length_nil]; omega⟩
 ·exact EvP.now ⟨hc2.up (by omega), ht, by show T.length ≤ 60001; omega⟩
end Go.Proofs.Ytcjjmfpkhhdmlaa.G


namespace Go.Proofs.Ytcjjmfpkhhdmlaa.G
open Go.RowKit Go.Proofs.YtcjjmfpkhhdmlaaW.PrintWords Go.Proofs.YtcjjmfpkhhdmlaaW.PrintLast Go.Proofs.YtcjjmfpkhhdmlaaW.PrintMore
attribute [local go_sem] max2_int min2_int max_two min_two max_three min_three max_four min_four   -- for this text's walks alone
def spec_DrawReadSegs.j0 : Nat → List Int → List Int → Int → Int → Option (List Int)
 | 0, _, _, _, _ => none
 | k + 1, x4, x1383000, x1383001, x1383002 => (spec_l01Cur_once.f x1383000 x1383001 x1383002 20).bind fun bt1399 => (if bt1399.1 = true then ((spec_l01Cur_pick.f x1383000 bt1399.2.1 bt1399.2.2 3).bind fun bt1402 => (if x4.length < 140737488355328 then (some (x4 ++ [(bt1402.1) % 256])) else (none))) else (some x4))
def spec_DrawReadSegs.f (k : Nat) (l0 : List Int) : Option (List Int) := (spec_l01Open.f l0).bind fun bt1379 => ((spec_l02DrawSegs.f k bt1379.1 bt1379.2.1 bt1379.2.2).bind fun bt1383 => ((spec_WriteSegs.f k bt1383.1).bind fun t1388 => ((spec_l01Cur_once.f bt1379.1 bt1383.2.1 bt1383.2.2 2).bind fun bt1391 => (if bt1391.1 = true then ((spec_l02Spoil.f bt1379.1 bt1391.2.1 bt1391.2.2 t1388).bind fun bt1394 => (spec_DrawReadSegs.j0 k bt1394.1 bt1379.1 bt1394.2.1 bt1394.2.2)) else (spec_DrawReadSegs.j0 k t1388 bt1379.1 bt1391.2.1 bt1391.2.2)))))
set_option maxHeartbeats 8000000 in
set_option maxRecDepth 100000 in
theorem spec_DrawReadSegs.calls (k : Nat) (A0 : Option Addr) (c0 : Nat) (l0 : List Int) (r : List Int) (w : World) (hr0 : Kd.C (Kd.int .u8) w A0 l0.length l0) (hc0 : l0.length ≤ c0) (h : spec_DrawReadSegs.f k l0 = some r) :
  Calls Try.prog 73 #[.slice A0 l0.length c0] w fun e w' => ∃ v0_ : Value, e = .returned (v0_) ∧ Kd.R (Kd.int .u8) 5 w' w.heap.size (fun _ => True) v0_ r ∧ Below w.heap.size w w' := by
 have HR0 := zA hr0
 have HC0 := zA hc0
 clear hr0 hc0
 have HB := zA (Below.refl w.heap.size w)
 have H : ((spec_l01Open.f l0).bind fun bt1379 => ((spec_l02DrawSegs.f k bt1379.1 bt1379.2.1 bt1379.2.2).bind fun bt1383 => ((spec_WriteSegs.f k bt1383.1).bind fun t1388 => ((spec_l01Cur_once.f bt1379.1 bt1383.2.1 bt1383.2.2 2).bind fun bt1391 => (if bt1391.1 = true then ((spec_l02Spoil.f bt1379.1 bt1391.2.1 bt1391.2.2 t1388).bind fun bt1394 => (spec_DrawReadSegs.j0 k bt1394.1 bt1379.1 bt1394.2.1 bt1394.2.2)) else (spec_DrawReadSegs.j0 k t1388 bt1379.1 bt1391.2.1 bt1391.2.2)))))) = some r := h
 clear h
 replace H := Option.bind_eq_some_iff.mp H
 obtain ⟨⟨t1379, t1380, t1381⟩, A20, H⟩ := H
 replace H : ((spec_l02DrawSegs.f k t1379 t1380 t1381).bind fun bt1383 => ((spec_WriteSegs.f k bt1383.1).bind fun t1388 => ((spec_l01Cur_once.f t1379 bt1383.2.1 bt1383.2.2 2).bind fun bt1391 => (if bt1391.1 = true then ((spec_l02Spoil.f t1379 bt1391.2.1 bt1391.2.2 t1388).bind fun bt1394 => (spec_DrawReadSegs.j0 k bt1394.1 t1379 bt1394.2.1 bt1394.2.2)) else (spec_DrawReadSegs.j0 k t1388 t1379 bt1391.2.1 bt1391.2.2))))) = some r := H
 have A2 := zA A20
 clear A20
 replace H := Option.bind_eq_some_iff.mp H
 obtain ⟨⟨t1383, t1386, t1387⟩, A30, H⟩ := H
 replace H : ((spec_WriteSegs.f k t1383).bind fun t1388 => ((spec_l01Cur_once.f t1379 t1386 t1387 2).bind fun bt1391 => (if bt1391.1 = true then ((spec_l02Spoil.f t1379 bt1391.2.1 bt1391.2.2 t1388).bind fun bt1394 => (spec_DrawReadSegs.j0 k bt1394.1 t1379 bt1394.2.1 bt1394.2.2)) else (spec_DrawReadSegs.j0 k t1388 t1379 bt1391.2.1 bt1391.2.2)))) = some r := H
 have A3 := zA A30
 clear A30
 replace H := Option.bind_eq_some_iff.mp H
 obtain ⟨t1388, A40, H⟩ := H
 replace H : ((spec_l01Cur_once.f t1379 t1386 t1387 2).bind fun bt1391 => (if bt1391.1 = true then ((spec_l02Spoil.f t1379 bt1391.2.1 bt1391.2.2 t1388).bind fun bt1394 => (spec_DrawReadSegs.j0 k bt1394.1 t1379 bt1394.2.1 bt1394.2.2)) else (spec_DrawReadSegs.j0 k t1388 t1379 bt1391.2.1 bt1391.2.2))) = some r := H
 have A4 := zA A40
 clear A40
 replace H := Option.bind_eq_some_iff.mp H
 obtain ⟨⟨t1391, t1392, t1393⟩, A50, H⟩ := H
 replace H : (if t1391 = true then ((spec_l02Spoil.f t1379 t1392 t1393 t1388).bind fun bt1394 => (spec_DrawReadSegs.j0 k bt1394.1 t1379 bt1394.2.1 bt1394.2.2)) else (spec_DrawReadSegs.j0 k t1388 t1379 t1392 t1393)) = some r := H
 have A5 := zA A50
 clear A50
 have HC6 := zA H
 clear H
 go_enter Try.func73, Try.ntmps73
 go_upto_if 11 with (first | ((with_reducible refine gate_callee (f := 84) rfl ?_); refine goesL_ (some 6) rfl rfl Try.func84 (by kernel_rfl) rfl #[.slice A0 l0.length c0] rfl (by (try simp only [zU, zV, zW]); first | done | rfl | (simp only [zR, zQ]; rfl)) ?_; (with_reducible refine (spec_l01Open.calls _ _ l0 t1379 t1380 t1381 w _ ?side1 ?side2 ?side3 A2.out).mono ?_); (case side1 => repeat (first | (with_reducible first | exact HB.out | apply zC | apply zB | apply zF) | exact HB.out)); (case side2 => exact HR0.out); (case side3 => exact HC0.out); rintro e w7 ⟨g1382, rfl, hi, hb, hb2⟩; refine ⟨_, rfl, ?_⟩; have n0_ := zA (hb); have n1_ := zA (hi); clear HB; have HB := n0_; have HI1382 := n1_; clear n0_ n1_; (try clear hb); (try clear hb2); (try clear hk); (try clear hi)) | ((with_reducible refine gate_callee (f := 144) rfl ?_); refine goesL_ (some 8) rfl rfl Try.func144 (by kernel_rfl) rfl #[.pointer (some ⟨g1382, 0, none⟩)] rfl (by (try simp only [zU, zV, zW]); first | done | rfl | (simp only [zR, zQ]; rfl)) ?_; (with_reducible refine (spec_l02DrawSegs.calls k g1382 t1379 t1380 t1381 t1383 t1386 t1387 w _ ?side1 ?side2 A3.out).mono ?_); (case side1 => repeat (first | (with_reducible first | exact HI1382.out | apply IsS150.alloc | apply IsS150.drewN | apply IsS150.drew | apply IsS150.set_1 | apply IsS150.set_2) | exact HI1382.out)); (case side2 => repeat (first | (with_reducible first | exact HB.out | apply zC | apply zB | apply zF | refine zE ?_ (IsS150.ge HI1382.out)) | exact HB.out)); rintro e w8 ⟨v1384, rfl, ho0, hi, hb, hk⟩; refine ⟨_, rfl, ?_⟩; have n0_ := zA (Kd.S_lower ho0 (zL (by repeat (first | (with_reducible first | exact HB.out | apply zC | apply zB | apply zF | refine zE ?_ (IsS150.ge HI1382.out)) | exact HB.out)))); have n1_ := zA (hb); have n2_ := zA (hi); clear HB; clear HI1382; have HO1385 := n0_; have HB := n1_; have HI1382 := n2_; clear n0_ n1_ n2_; (try clear hb); (try clear hb2); (try clear hk); (try clear hi); (try clear ho0); obtain ⟨Ao9, co9, eo9⟩ := Kd.S_slice HO1385.out; subst eo9) | ((with_reducible refine gate_callee (f := 143) rfl ?_); refine goesL_ (some 9) rfl rfl Try.func143 (by kernel_rfl) rfl #[.slice Ao9 t1383.length co9] rfl (by (try simp only [zU, zV, zW]); first | done | rfl | (simp only [zR, zQ]; rfl)) ?_; (with_reducible refine (spec_WriteSegs.calls k _ _ t1383 t1388 _ ?side1 ?side2 A4.out).mono ?_); (case side1 => repeat (first | exact (Kd.S_reads' HO1385.out).2.2 | (with_reducible refine yN ?_ _) | (with_reducible refine yL ?_ _) | (with_reducible refine yM ?_))); (case side2 => exact (Kd.S_reads' HO1385.out).2.1); rintro e w10 ⟨v1389, rfl, ho0, hb⟩; refine ⟨_, rfl, ?_⟩; have n0_ := zA (Kd.S_elder' (by (with_reducible repeat (first | apply yE | apply yF | apply yG)); exact HO1385.out) (Kd.R_base ho0) hb); have n1_ := zA (Kd.R_lower ho0 (zL (by repeat (first | (with_reducible first | exact HB.out | apply zC | apply zB | apply zF | refine zE ?_ (IsS150.ge HI1382.out)) | exact HB.out)))); have n2_ := zA (IsS150.below (by repeat (first | (with_reducible first | exact HI1382.out | apply IsS150.alloc | apply IsS150.drewN | apply IsS150.drew | apply IsS150.set_1 | apply IsS150.set_2) | exact HI1382.out)) hb); have n3_ := zA (below_step (by repeat (first | (with_reducible first | exact HB.out | apply zC | apply zB | apply zF | refine zE ?_ (IsS150.ge HI1382.out)) | exact HB.out)) hb); clear HO1385; clear HI1382; clear HB; have HO1385 := n0_; have HO1390 := n1_; have HI1382 := n2_; have HB := n3_; clear n0_ n1_ n2_ n3_; (try clear hb); (try clear hb2); (try clear hk); (try clear hi); (try clear ho0)) | ((with_reducible refine gate_callee (f := 87) rfl ?_); refine goesL_ (some 11) rfl rfl Try.func87 (by kernel_rfl) rfl #[.pointer (some ⟨g1382, 0, none⟩), .int .i64 2] rfl (by (try simp only [zU, zV, zW]); first | done | rfl | (simp only [zR, zQ]; rfl)) ?_; (with_reducible refine (spec_l01Cur_once.calls g1382 t1379 t1386 t1387 2 t1391 t1392 t1393 w _ ?side1 ?side2 A5.out).mono ?_); (case side1 => repeat (first | (with_reducible first | exact HI1382.out | apply IsS150.alloc | apply IsS150.drewN | apply IsS150.drew | apply IsS150.set_1 | apply IsS150.set_2) | exact HI1382.out)); (case side2 => repeat (first | (with_reducible first | exact HB.out | apply zC | apply zB | apply zF | refine zE ?_ (IsS150.ge HI1382.out)) | exact HB.out)); rintro e w11 ⟨rfl, hi, hb, hk⟩; refine ⟨_, rfl, ?_⟩; have n0_ := zA (yH (Kd.S_keep (IsS150.apartS (show IsS150 w _ g1382 t1379 t1386 t1387 from by repeat (first | (with_reducible first | exact HI1382.out | apply IsS150.alloc | apply IsS150.drewN | apply IsS150.drew | apply IsS150.set_1 | apply IsS150.set_2) | exact HI1382.out)) (by (with_reducible repeat (first | apply yE | apply yF | apply yG)); exact HO1385.out) (by decide)) hk (fun _ h => h.2)) (fun _ h => h.1)); have n1_ := zA (zP (Kd.R_keep (IsS150.apart (show IsS150 w _ g1382 t1379 t1386 t1387 from by repeat (first | (with_reducible first | exact HI1382.out | apply IsS150.alloc | apply IsS150.drewN | apply IsS150.drew | apply IsS150.set_1 | apply IsS150.set_2) | exact HI1382.out)) (by (with_reducible repeat (first | apply zN | apply zM | apply zO)); exact HO1390.out) (by decide)) hk (fun _ h => h.2)) (fun _ h => h.1)); have n2_ := zA (hb); have n3_ := zA (hi); clear HO1385; clear HO1390; clear HB; clear HI1382; have HO1385 := n0_; have HO1390 := n1_; have HB := n2_; have HI1382 := n3_; clear n0_ n1_ n2_ n3_; (try clear hb); (try clear hb2); (try clear hk); (try clear hi)))
 (try simp only [Act.put, List.setIfInBounds_toArray, List.set_cons_zero, List.set_cons_succ])
 go_cut [4] (fun v4 wc => ∃ (kq : Nat) (x4_5 : List Int) (x1383001_5 : Int) (x1383002_5 : Int), Aside0 (spec_DrawReadSegs.j0 kq x4_5 t1379 x1383001_5 x1383002_5 = some r) ∧ Aside0 (kq ≤ k) ∧ Aside0 (Kd.R (Kd.int .u8) 5 wc w.heap.size (fun _ => True) v4 x4_5) ∧ Aside0 (IsS150 w wc g1382 t1379 x1383001_5 x1383002_5) ∧ Aside0 (Below w.heap.size w wc))
 case first =>
  have H := HC6.out
  clear HC6
  by_cases c12 : t1391 = true
  ·subst c12
   have H1 : ((spec_l02Spoil.f t1379 t1392 t1393 t1388).bind fun bt1394 => (spec_DrawReadSegs.j0 k bt1394.1 t1379 bt1394.2.1 bt1394.2.2)) = some r := by rw [if_pos rfl] at H; exact H
   clear H
   have H := H1
   clear H1
   replace H := Option.bind_eq_some_iff.mp H
   obtain ⟨⟨t1394, t1397, t1398⟩, A130, H⟩ := H
   replace H : (spec_DrawReadSegs.j0 k t1394 t1379 t1397 t1398) = some r := H
   have A13 := zA A130
   clear A130
   have H' := zA H
   clear H
   obtain ⟨Ao14, co14, eo14⟩ := Kd.R_slice HO1390.out
   subst eo14
   go_wp2_with (first | ((with_reducible refine gate_callee (f := 145) rfl ?_); refine goesL_ (some 14) rfl rfl Try.func145 (by kernel_rfl) rfl #[.pointer (some ⟨g1382, 0, none⟩), .slice Ao14 t1388.length co14] rfl (by (try simp only [zU, zV, zW]); first | done | rfl | (simp only [zR, zQ]; rfl)) ?_; (with_reducible refine (spec_l02Spoil.calls g1382 t1379 t1392 t1393 (fun k_ => some k_ = (.slice Ao14 t1388.length co14 : Value).ownBlock) (.slice Ao14 t1388.length co14) t1388 t1394 t1397 t1398 w _ ?side1 ?side2 ?side3 A13.out).mono ?_); (case side1 => repeat (first | (with_reducible first | exact HI1382.out | apply IsS150.alloc | apply IsS150.drewN | apply IsS150.drew | apply IsS150.set_1 | apply IsS150.set_2) | exact HI1382.out)); (case side2 => repeat (first | (with_reducible first | exact HB.out | apply zC | apply zB | apply zF | refine zE ?_ (IsS150.ge HI1382.out)) | exact HB.out)); (case side3 => exact Kd.R_tight rfl HO1390.out); rintro e w15 ⟨v1395, rfl, ho0, hi, hb, hkp⟩; refine ⟨_, rfl, ?_⟩; have n0_ := zA (hi); have n2_ := zA (zP (ok' := fun k_ => True) ho0 (fun k_ hk_ => trivial)); have n3_ := zA (hb); clear HI1382; clear HO1385; clear HB; clear HO1390; have HI1382 := n0_; have HO1396 := n2_; have HB := n3_; clear n0_ n2_ n3_; (try clear hb); (try clear hkp); (try clear ho0)))
   go_meet
   case rel => exact ⟨_, (t1394), (t1397), (t1398), H', ⟨by first | omega | exact Nat.le_refl _⟩, ⟨by (with_reducible repeat (first | apply zN | apply zM | apply zO)); exact HO1396.out⟩, ⟨by repeat (first | (with_reducible first | exact HI1382.out | apply IsS150.alloc | apply IsS150.drewN | apply IsS150.drew | apply IsS150.set_1 | apply IsS150.set_2) | exact HI1382.out)⟩, ⟨by repeat (first | (with_reducible first | exact HB.out | apply zC | apply zB | apply zF | refine zE ?_ (IsS150.ge HI1382.out)) | exact HB.out)⟩⟩
  ·replace c12 := Bool.eq_false_iff.mpr c12
   subst c12
   have H1 : (spec_DrawReadSegs.j0 k t1388 t1379 t1392 t1393) = some r := by rw [if_neg (show ¬ (false = true) by decide)] at H; exact H
   clear H
   have H := H1
   clear H1
   have H' := zA H
   clear H
   go_wp2
   go_meet
   case rel => exact ⟨_, (t1388), (t1392), (t1393), H', ⟨by first | omega | exact Nat.le_refl _⟩, ⟨by (with_reducible repeat (first | apply zN | apply zM | apply zO)); exact HO1390.out⟩, ⟨by repeat (first | (with_reducible first | exact HI1382.out | apply IsS150.alloc | apply IsS150.drewN | apply IsS150.drew | apply IsS150.set_1 | apply IsS150.set_2) | exact HI1382.out)⟩, ⟨by repeat (first | (with_reducible first | exact HB.out | apply zC | apply zB | apply zF | refine zE ?_ (IsS150.ge HI1382.out)) | exact HB.out)⟩⟩
 case rest =>
  clear HC6
  try clear c1
  try clear p2
  try clear c7
  try clear c8
  try clear c12
  try clear c14
  obtain ⟨kq, x4_5, x1383001_5, x1383002_5, HA, HJ5, HO_4, HI1382, HB⟩ := hcut
  cases kq with
  | zero => exact absurd HA.out (by simp [spec_DrawReadSegs.j0])
  | succ kj5 =>
   have H := HA.out
   clear HA
   simp only [spec_DrawReadSegs.j0] at H
   replace H := Option.bind_eq_some_iff.mp H
   obtain ⟨⟨t1399, t1400, t1401⟩, A160, H⟩ := H
   replace H : (if t1399 = true then ((spec_l01Cur_pick.f t1379 t1400 t1401 3).bind fun bt1402 => (if x4_5.length < 140737488355328 then (some (x4_5 ++ [(bt1402.1) % 256])) else (none))) else (some x4_5)) = some r := H
   have A16 := zA A160
   clear A160
   by_cases c17 : t1399 = true
   ·subst c17
    have H1 : ((spec_l01Cur_pick.f t1379 t1400 t1401 3).bind fun bt1402 => (if x4_5.length < 140737488355328 then (some (x4_5 ++ [(bt1402.1) % 256])) else (none))) = some r := by rw [if_pos rfl] at H; exact H
    clear H
    have H := H1
    clear H1
    replace H := Option.bind_eq_some_iff.mp H
    obtain ⟨⟨t1402, t1403, t1404⟩, A180, H⟩ := H
    replace H : (if x4_5.length < 140737488355328 then (some (x4_5 ++ [(t1402) % 256])) else (none)) = some r := H
    have A18 := zA A180
    clear A180
    by_cases c19 : x4_5.length < 140737488355328
    ·rw [if_pos c19] at H
     have LMc19 := zA c19
     clear c19
     obtain ⟨y1405, hy1405⟩ : ∃ y_ : List Int, y_ = (x4_5 ++ [(t1402) % 256]) := ⟨_, rfl⟩
     replace H : (some y1405) = some r := by first | (rw [hy1405]; with_reducible exact H) | (have H2_ := (zS _ _).symm.trans H; rw [hy1405]; with_reducible exact H2_) | (have H2_ := (zS _ _).symm.trans H; with_reducible exact H2_) | with_reducible exact H | (rw [hy1405]; exact H) | exact H
     have Ny1405 := zA hy1405
     clear hy1405
     obtain rfl := Option.some.inj H
     go_wp2_with (first | ((with_reducible refine gate_callee (f := 87) rfl ?_); refine goesL_ (some 16) rfl rfl Try.func87 (by kernel_rfl) rfl #[.pointer (some ⟨g1382, 0, none⟩), .int .i64 20] rfl (by (try simp only [zU, zV, zW]); first | done | rfl | (simp only [zR, zQ]; rfl)) ?_; (with_reducible refine (spec_l01Cur_once.calls g1382 t1379 x1383001_5 x1383002_5 20 true t1400 t1401 w _ ?side1 ?side2 A16.out).mono ?_); (case side1 => repeat (first | (with_reducible first | exact HI1382.out | apply IsS150.alloc | apply IsS150.drewN | apply IsS150.drew | apply IsS150.set_1 | apply IsS150.set_2) | exact HI1382.out)); (case side2 => repeat (first | (with_reducible first | exact HB.out | apply zC | apply zB | apply zF | refine zE ?_ (IsS150.ge HI1382.out)) | exact HB.out)); rintro e w20 ⟨rfl, hi, hb, hk⟩; refine ⟨_, rfl, ?_⟩; have n0_ := zA (zP (Kd.R_keep (IsS150.apart (show IsS150 w _ g1382 t1379 x1383001_5 x1383002_5 from by repeat (first | (with_reducible first | exact HI1382.out | apply IsS150.alloc | apply IsS150.drewN | apply IsS150.drew | apply IsS150.set_1 | apply IsS150.set_2) | exact HI1382.out)) (by (with_reducible repeat (first | apply zN | apply zM | apply zO)); exact HO_4.out) (by decide)) hk (fun _ h => h.2)) (fun _ h => h.1)); have n1_ := zA (hb); have n2_ := zA (hi); clear HO_4; clear HB; clear HI1382; have HO_4 := n0_; have HB := n1_; have HI1382 := n2_; clear n0_ n1_ n2_; (try clear hb); (try clear hb2); (try clear hk); (try clear hi)) | ((with_reducible refine gate_callee (f := 85) rfl ?_); refine goesL_ (some 19) rfl rfl Try.func85 (by kernel_rfl) rfl #[.pointer (some ⟨g1382, 0, none⟩), .int .i64 3] rfl (by (try simp only [zU, zV, zW]); first | done | rfl | (simp only [zR, zQ]; rfl)) ?_; (with_reducible refine (spec_l01Cur_pick.calls g1382 t1379 t1400 t1401 3 t1402 t1403 t1404 w _ ?side1 ?side2 A18.out).mono ?_); (case side1 => repeat (first | (with_reducible first | exact HI1382.out | apply IsS150.alloc | apply IsS150.drewN | apply IsS150.drew | apply IsS150.set_1 | apply IsS150.set_2) | exact HI1382.out)); (case side2 => repeat (first | (with_reducible first | exact HB.out | apply zC | apply zB | apply zF | refine zE ?_ (IsS150.ge HI1382.out)) | exact HB.out)); rintro e w21 ⟨rfl, hi, hb, hk⟩; refine ⟨_, rfl, ?_⟩; have n0_ := zA (zP (Kd.R_keep (IsS150.apart (show IsS150 w _ g1382 t1379 t1400 t1401 from by repeat (first | (with_reducible first | exact HI1382.out | apply IsS150.alloc | apply IsS150.drewN | apply IsS150.drew | apply IsS150.set_1 | apply IsS150.set_2) | exact HI1382.out)) (by (with_reducible repeat (first | apply zN | apply zM | apply zO)); exact HO_4.out) (by decide)) hk (fun _ h => h.2)) (fun _ h => h.1)); have n1_ := zA (hb); have n2_ := zA (hi); clear HO_4; clear HB; clear HI1382; have HO_4 := n0_; have HB := n1_; have HI1382 := n2_; clear n0_ n1_ n2_; (try clear hb); (try clear hb2); (try clear hk); (try clear hi)) | ((with_reducible refine gate_builtin (b := .append) (xs := #[.tmp 17, .tmp 21]) rfl ?_); at_builtin; refine Kd.R_append (Kd.int .u8) (w0 := w) w.heap.size rfl (.tmp 17) (.tmp 21) 23 5 (.int .u8 0) 1 rfl Try.underlying23 info5 rfl (by decide) (by omega) u4 x4_5 ((t1402) % 256) [.int .u8 ((t1402) % 256)] (fun _ => True) (fun _ => False) rfl rfl ?aP (fun _ hk => hk.elim) ?aF ?aO ?aB ?aS ?aL ?_; (case aP => exact rfl); (case aB => exact (by repeat (first | (with_reducible first | exact HB.out | apply zC | apply zB | apply zF | refine zE ?_ (IsS150.ge HI1382.out)) | exact HB.out))); (case aF => exact (fun _ _ => trivial)); (case aO => exact (by (with_reducible repeat (first | apply zN | apply zM | apply zO)); exact HO_4.out)); (case aS => exact (zL (by repeat (first | (with_reducible first | exact HB.out | apply zC | apply zB | apply zF | refine zE ?_ (IsS150.ge HI1382.out)) | exact HB.out)))); (case aL => have := LMc19.out; omega); intro v1406 w22 ho hb hg hat; rw [← Ny1405.out] at ho; have n0_ := zA (IsS150.grown (by repeat (first | (with_reducible first | exact HI1382.out | apply IsS150.alloc | apply IsS150.drewN | apply IsS150.drew | apply IsS150.set_1 | apply IsS150.set_2) | exact HI1382.out)) hg (IsS150.own_ne HI1382.out HO_4.out (by decide))); have n1_ := zA (hb); have n2_ := zA (ho); clear HI1382; clear HB; clear HO_4; have HI1382 := n0_; have HB := n1_; have HO1407 := n2_; clear n0_ n1_ n2_; clear ho hb hg hat))
     go_ret
     exact ⟨_, by first | rfl | (simp [errW_none, errW_some] <;> rfl) | (simp [*, errW_none, errW_some] <;> rfl), by (with_reducible repeat (first | apply zN | apply zM | apply zO)); exact HO1407.out, by repeat (first | (with_reducible first | exact HB.out | apply zC | apply zB | apply zF | refine zE ?_ (IsS150.ge HI1382.out)) | exact HB.out)⟩
    ·rw [if_neg c19] at H
     exact absurd H (by simp)
   ·replace c17 := Bool.eq_false_iff.mpr c17
    subst c17
    have H1 : (some x4_5) = some r := by rw [if_neg (show ¬ (false = true) by decide)] at H; exact H
    clear H
    have H := H1
    clear H1
    obtain rfl := Option.some.inj H
    go_wp2_with (first | ((with_reducible refine gate_callee (f := 87) rfl ?_); refine goesL_ (some 16) rfl rfl Try.func87 (by kernel_rfl) rfl #[.pointer (some ⟨g1382, 0, none⟩), .int .i64 20] rfl (by (try simp only [zU, zV, zW]); first | done | rfl | (simp only [zR, zQ]; rfl)) ?_; (with_reducible refine (spec_l01Cur_once.calls g1382 t1379 x1383001_5 x1383002_5 20 false t1400 t1401 w _ ?side1 ?side2 A16.out).mono ?_); (case side1 => repeat (first | (with_reducible first | exact HI1382.out | apply IsS150.alloc | apply IsS150.drewN | apply IsS150.drew | apply IsS150.set_1 | apply IsS150.set_2) | exact HI1382.out)); (case side2 => repeat (first | (with_reducible first | exact HB.out | apply zC | apply zB | apply zF | refine zE ?_ (IsS150.ge HI1382.out)) | exact HB.out)); rintro e w23 ⟨rfl, hi, hb, hk⟩; refine ⟨_, rfl, ?_⟩; have n0_ := zA (zP (Kd.R_keep (IsS150.apart (show IsS150 w _ g1382 t1379 x1383001_5 x1383002_5 from by repeat (first | (with_reducible first | exact HI1382.out | apply IsS150.alloc | apply IsS150.drewN | apply IsS150.drew | apply IsS150.set_1 | apply IsS150.set_2) | exact HI1382.out)) (by (with_reducible repeat (first | apply zN | apply zM | apply zO)); exact HO_4.out) (by decide)) hk (fun _ h => h.2)) (fun _ h => h.1)); have n1_ := zA (hb); have n2_ := zA (hi); clear HO_4; clear HB; clear HI1382; have HO_4 := n0_; have HB := n1_; have HI1382 := n2_; clear n0_ n1_ n2_; (try clear hb); (try clear hb2); (try clear hk); (try clear hi)))
    go_ret
    exact ⟨_, by first | rfl | (simp [errW_none, errW_some] <;> rfl) | (simp [*, errW_none, errW_some] <;> rfl), by (with_reducible repeat (first | apply zN | apply zM | apply zO)); exact HO_4.out, by repeat (first | (with_reducible first | exact HB.out | apply zC | apply zB | apply zF | refine zE ?_ (IsS150.ge HI1382.out)) | exact HB.out)⟩
theorem spec_DrawReadSegs.ev (l : List Int) (hb : ∀ x ∈ l, 0 ≤ x ∧ x ≤ 255) (hl : l.length ≤ 1048576) : EvP (fun k => spec_DrawReadSegs.f k l) (fun r => BytesL r ∧ r.length ≤ 60002) := by
 unfold spec_DrawReadSegs.f
 refine CurAt.open_ hb hl (fun s hc => ?_)
 refine EvP.bind (spec_l02DrawSegs.ev l 0 0 s hc (by omega)) (fun r hr => ?_)
 obtain ⟨sg, a1, s1⟩ := r
 obtain ⟨hc1, h1, h2⟩ := hr
 simp only [] at hc1 h1 h2
 refine EvP.bind (spec_WriteSegs.ev sg h1 (by omega)) (fun b hb2 => ?_)
 have jn : ∀ (x : List Int) (a s : Int), BytesL x → x.length ≤ 60001 → CurAt l 4000 a s → EvP (fun k => spec_DrawReadSegs.j0 k x l a s) (fun r => BytesL r ∧ r.length ≤ 60002) := by
  intro x a s hx hxl hcx
  refine EvP.step (fun _ => by rw [spec_DrawReadSegs.j0]) ?_
  refine hcx.once (by omega) 20 (fun o a2 s2 hc2 => ?_)
  refine EvP.either (fun _ => ?_) (fun _ => EvP.now ⟨hx, by omega⟩)
  refine hc2.pick (by omega) 3 (fun v a3 s3 h3 h4 _ => ?_)
  refine EvP.ip (by omega) ?_
  exact EvP.now ⟨hx.app (BytesL.one (show 0 ≤ v % 256 ∧ v % 256 ≤ 255 by omega)), by simp; omega⟩
 refine hc1.once (by omega) 2 (fun o a2 s2 hc2 => ?_)
 refine EvP.either (fun _ => ?_) (fun _ => jn b a2 s2 hb2.1 (by omega) (hc2.up (by omega)))
 refine EvP.bind (spec_l02Spoil.ev l b hb2.1 hb2.2 3002 a2 s2 hc2 (by omega)) (fun r hr => ?_)
 obtain ⟨x, a3, s3⟩ := r
 obtain ⟨g1, g2, g3⟩ := hr
 simp only [] at g1 g2 g3
 exact jn x a3 s3 g2 g3 (g1.up (by omega))
end Go.Proofs.Ytcjjmfpkhhdmlaa.G


namespace Go.Proofs.Ytcjjmfpkhhdmlaa.G
open Go.RowKit Go.Proofs.YtcjjmfpkhhdmlaaW.PrintWords Go.Proofs.YtcjjmfpkhhdmlaaW.PrintLast Go.Proofs.YtcjjmfpkhhdmlaaW.PrintMore
attribute [local go_sem] max2_int min2_int max_two min_two max_three min_three max_four min_four   -- for this text's walks alone
def laws_sameBytes.l0 : Nat → List Int → List Int → Int → Option (Bool)
 | 0, _, _, _ => none
 | k + 1, x0, x1, x5 => if x5 < (x0.length : Int) then (if 0 ≤ x5 then (if x5 < (x1.length : Int) then (if (rd x0 x5) = (rd x1 x5) then (laws_sameBytes.l0 k x0 x1 (wrap64 (x5 + 1))) else (some false)) else (none)) else (none)) else (some true)
def laws_sameBytes.f (k : Nat) (l0 : List Int) (l1 : List Int) : Option (Bool) := if (l0.length : Int) = (l1.length : Int) then (laws_sameBytes.l0 k l0 l1 0) else (some false)
set_option maxHeartbeats 8000000 in
set_option maxRecDepth 100000 in
theorem laws_sameBytes.calls (k : Nat) (A0 : Option Addr) (c0 : Nat) (l0 : List Int) (A1 : Option Addr) (c1 : Nat) (l1 : List Int) (r : Bool) (w : World) (hr0 : Kd.C (Kd.int .u8) w A0 l0.length l0) (hc0 : l0.length ≤ c0) (hr1 : Kd.C (Kd.int .u8) w A1 l1.length l1) (hc1 : l1.length ≤ c1) (h : laws_sameBytes.f k l0 l1 = some r) :
  Calls Try.prog 49 #[.slice A0 l0.length c0, .slice A1 l1.length c1] w fun e w' => e = .returned (.bool r) ∧ Drawn0 w w' := by
 have HR0 := zA hr0
 have HC0 := zA hc0
 clear hr0 hc0
 have HR1 := zA hr1
 have HC1 := zA hc1
 clear hr1 hc1
 have H : (if (l0.length : Int) = (l1.length : Int) then (laws_sameBytes.l0 k l0 l1 0) else (some false)) = some r := h
 clear h
 by_cases c3 : (l0.length : Int) = (l1.length : Int)
 ·rw [if_pos c3] at H
  have c3b0 : ((l0.length : Int) == (l1.length : Int)) = true := beq_iff_eq.mpr c3
  have c3b1 : ((l0.length : Int) != (l1.length : Int)) = false := bne_eq_false_iff_eq.mpr c3
  have c3b2 : (l0.length == l1.length) = true := by first | simpa using c3 | (simp at c3 ⊢; omega)
  clear c3
  have H' := zA H
  clear H
  go_enter Try.func49, Try.ntmps49
  go_wp2
  repeat (go_quiet (fail); try go_wp2)
  go_loopg [5] k (fun kq v5 w' => ∃ (x5_1 : Int), v5 = .int .i64 x5_1 ∧ Aside0 (laws_sameBytes.l0 kq l0 l1 x5_1 = some r) ∧ Aside0 (kq ≤ k) ∧ Drawn0 w w')
  case atStart => exact ⟨(0), (by first | rfl | (simp; done) | (simp [*]; done)), H', ⟨Nat.le_refl _⟩, by repeat (first | exact Drawn0.refl _ | apply Drawn0.step)⟩
  case round =>
   clear H'
   try clear c1
   try clear p2
   try clear c3
   try clear c3b0
   try clear c3b1
   try clear c3b2
   obtain ⟨x5_1, rfl, HA, HK1, ⟨m1, rfl⟩⟩ := hrel
   cases gk with
   | zero => exact absurd HA.out (by simp [laws_sameBytes.l0])
   | succ k1 =>
    have H := HA.out
    clear HA
    simp only [laws_sameBytes.l0] at H
    by_cases c4 : x5_1 < (l0.length : Int)
    ·rw [if_pos c4] at H
     have c4b0 : decide (x5_1 < (l0.length : Int)) = true := zT c4
     clear c4
     by_cases c5 : 0 ≤ x5_1
     ·rw [if_pos c5] at H
      have c5b0 : decide (0 ≤ x5_1) = true := zT c5
      clear c5
      by_cases c6 : x5_1 < (l1.length : Int)
      ·rw [if_pos c6] at H
       have c6b0 : decide (x5_1 < (l1.length : Int)) = true := zT c6
       clear c6
       by_cases c7 : (rd l0 x5_1) = (rd l1 x5_1)
       ·rw [if_pos c7] at H
        have c7b0 : ((rd l0 x5_1) == (rd l1 x5_1)) = true := beq_iff_eq.mpr c7
        have c7b1 : ((rd l0 x5_1) != (rd l1 x5_1)) = false := bne_eq_false_iff_eq.mpr c7
        clear c7
        have H' := zA H
        clear H
        have p853 : 0 ≤ (x5_1 : Int) := zI (by first | (with_reducible assumption) | assumption)
        have q853 : x5_1 < (l0.length : Int) := zI (by first | (with_reducible assumption) | assumption)
        obtain ⟨ad853, e853, hx853_0⟩ := Kd.at_int HR0.out x5_1 p853 q853
        cases e853
        replace p853 := eq_true p853
        replace q853 := eq_true q853
        have p854 : 0 ≤ (x5_1 : Int) := zI (by first | (with_reducible assumption) | assumption)
        have q854 : x5_1 < (l1.length : Int) := zI (by first | (with_reducible assumption) | assumption)
        obtain ⟨ad854, e854, hx854_0⟩ := Kd.at_int HR1.out x5_1 p854 q854
        cases e854
        replace p854 := eq_true p854
        replace q854 := eq_true q854
        go_wp2
        repeat (go_quiet (fail); try go_wp2)
        go_roundg k1
        case measure => have := HK1.out; omega
        case rel => exact ⟨(wrap64 (x5_1 + 1)), (by first | rfl | (simp; done) | (simp [*]; done)), H', ⟨by have := HK1.out; omega⟩, by repeat (first | exact Drawn0.refl _ | apply Drawn0.step)⟩
       ·rw [if_neg c7] at H
        have c7b0 : ((rd l0 x5_1) == (rd l1 x5_1)) = false := beq_eq_false_iff_ne.mpr c7
        have c7b1 : ((rd l0 x5_1) != (rd l1 x5_1)) = true := bne_iff_ne.mpr c7
        obtain rfl := Option.some.inj H
        have p853 : 0 ≤ (x5_1 : Int) := zI (by first | (with_reducible assumption) | assumption)
        have q853 : x5_1 < (l0.length : Int) := zI (by first | (with_reducible assumption) | assumption)
        obtain ⟨ad853, e853, hx853_0⟩ := Kd.at_int HR0.out x5_1 p853 q853
        cases e853
        replace p853 := eq_true p853
        replace q853 := eq_true q853
        have p854 : 0 ≤ (x5_1 : Int) := zI (by first | (with_reducible assumption) | assumption)
        have q854 : x5_1 < (l1.length : Int) := zI (by first | (with_reducible assumption) | assumption)
        obtain ⟨ad854, e854, hx854_0⟩ := Kd.at_int HR1.out x5_1 p854 q854
        cases e854
        replace p854 := eq_true p854
        replace q854 := eq_true q854
        go_wp2
        repeat (go_quiet (fail); try go_wp2)
        go_ret
        exact ⟨by first | rfl | (simp; done) | (simp [*]; done), by repeat (first | exact Drawn0.refl _ | apply Drawn0.step)⟩
      ·rw [if_neg c6] at H
       exact absurd H (by simp)
     ·rw [if_neg c5] at H
      exact absurd H (by simp)
    ·rw [if_neg c4] at H
     have c4b0 : decide (x5_1 < (l0.length : Int)) = false := decide_eq_false c4
     clear c4
     obtain rfl := Option.some.inj H
     go_wp2
     repeat (go_quiet (fail); try go_wp2)
     go_ret
     exact ⟨by first | rfl | (simp; done) | (simp [*]; done), by repeat (first | exact Drawn0.refl _ | apply Drawn0.step)⟩
 ·rw [if_neg c3] at H
  have c3b0 : ((l0.length : Int) == (l1.length : Int)) = false := beq_eq_false_iff_ne.mpr c3
  have c3b1 : ((l0.length : Int) != (l1.length : Int)) = true := bne_iff_ne.mpr c3
  have c3b2 : (l0.length == l1.length) = false := by first | simpa using c3 | (simp at c3 ⊢; omega)
  obtain rfl := Option.some.inj H
  go_enter Try.func49, Try.ntmps49
  go_wp2
  repeat (go_quiet (fail); try go_wp2)
  go_ret
  exact ⟨by first | rfl | (simp; done) | (simp [*]; done), by repeat (first | exact Drawn0.refl _ | apply Drawn0.step)⟩
theorem laws_sameBytes.l0_ev (a : List Int) (ha : a.length ≤ 281474976710656) : ∀ (d i : Nat), i + d = a.length → Ev (fun k => laws_sameBytes.l0 k a a (i : Int)) true := by
 intro d
 induction d with
 | zero =>
  intro i hi
  exact Ev.step (fun _ => by rw [laws_sameBytes.l0]) (Ev.ng (by omega) (Ev.now _))
 | succ d ih =>
  intro i hi
  refine Ev.step (fun _ => by rw [laws_sameBytes.l0]) (Ev.ip (by omega) (Ev.ip (by omega) (Ev.ip (by omega) (Ev.ip (by rfl) ?_))))
  rw [wrap_succ i (by omega)]
  exact ih (i + 1) (by omega)
theorem laws_sameBytes.same (a : List Int) (ha : a.length ≤ 281474976710656) : Ev (fun k => laws_sameBytes.f k a a) true := Ev.ip rfl (laws_sameBytes.l0_ev a ha a.length 0 (Nat.zero_add _))
end Go.Proofs.Ytcjjmfpkhhdmlaa.G


namespace Go.Proofs.Ytcjjmfpkhhdmlaa.G
open Go.RowKit Go.Proofs.YtcjjmfpkhhdmlaaW.PrintWords Go.Proofs.YtcjjmfpkhhdmlaaW.PrintLast Go.Proofs.YtcjjmfpkhhdmlaaW.PrintMore
attribute [local go_sem] max2_int min2_int max_two min_two max_three min_three max_four min_four   -- for this text's walks alone
def laws_sameSegs.l0 : Nat → List (S131) → List (S131) → Int → Option (Bool)
 | 0, _, _, _ => none
 | k + 1, x0, x1, x5 => if x5 < (x0.length : Int) then (if 0 ≤ x5 then (if x5 < (x1.length : Int) then (if ((rd_T131 x0 x5).f0) = ((rd_T131 x1 x5).f0) then ((laws_sameBytes.f k ((rd_T131 x0 x5).f1) ((rd_T131 x1 x5).f1)).bind fun t1412 => (if t1412 = true then (laws_sameSegs.l0 k x0 x1 (wrap64 (x5 + 1))) else (some false))) else (some false)) else (none)) else (none)) else (some true)
def laws_sameSegs.f (k : Nat) (l0 : List (S131)) (l1 : List (S131)) : Option (Bool) := if (l0.length : Int) = (l1.length : Int) then (laws_sameSegs.l0 k l0 l1 0) else (some false)
set_option maxHeartbeats 8000000 in
set_option maxRecDepth 100000 in
theorem laws_sameSegs.calls (k : Nat) (A0 : Option Addr) (c0 : Nat) (l0 : List (S131)) (A1 : Option Addr) (c1 : Nat) (l1 : List (S131)) (r : Bool) (w : World) (hr0 : Kd.C k131 w A0 l0.length l0) (hc0 : l0.length ≤ c0) (hr1 : Kd.C k131 w A1 l1.length l1) (hc1 : l1.length ≤ c1) (h : laws_sameSegs.f k l0 l1 = some r) :
  Calls Try.prog 74 #[.slice A0 l0.length c0, .slice A1 l1.length c1] w fun e w' => e = .returned (.bool r) ∧ Drawn0 w w' := by
 have HR0 := zA hr0
 have HC0 := zA hc0
 clear hr0 hc0
 have HR1 := zA hr1
 have HC1 := zA hc1
 clear hr1 hc1
 have H : (if (l0.length : Int) = (l1.length : Int) then (laws_sameSegs.l0 k l0 l1 0) else (some false)) = some r := h
 clear h
 by_cases c3 : (l0.length : Int) = (l1.length : Int)
 ·rw [if_pos c3] at H
  have c3b0 : ((l0.length : Int) == (l1.length : Int)) = true := beq_iff_eq.mpr c3
  have c3b1 : ((l0.length : Int) != (l1.length : Int)) = false := bne_eq_false_iff_eq.mpr c3
  have c3b2 : (l0.length == l1.length) = true := by first | simpa using c3 | (simp at c3 ⊢; omega)
  clear c3
  have H' := zA H
  clear H
  go_enter Try.func74, Try.ntmps74
  go_wp2
  repeat (go_quiet (fail); try go_wp2)
  go_loopg [5] k (fun kq v5 w' => ∃ (x5_1 : Int), v5 = .int .i64 x5_1 ∧ Aside0 (laws_sameSegs.l0 kq l0 l1 x5_1 = some r) ∧ Aside0 (kq ≤ k) ∧ Drawn0 w w')
  case atStart => exact ⟨(0), (by first | rfl | (simp; done) | (simp [*]; done)), H', ⟨Nat.le_refl _⟩, by repeat (first | exact Drawn0.refl _ | apply Drawn0.step)⟩
  case round =>
   clear H'
   try clear c1
   try clear p2
   try clear c3
   try clear c3b0
   try clear c3b1
   try clear c3b2
   obtain ⟨x5_1, rfl, HA, HK1, ⟨m1, rfl⟩⟩ := hrel
   cases gk with
   | zero => exact absurd HA.out (by simp [laws_sameSegs.l0])
   | succ k1 =>
    have H := HA.out
    clear HA
    simp only [laws_sameSegs.l0] at H
    by_cases c4 : x5_1 < (l0.length : Int)
    ·rw [if_pos c4] at H
     have c4b0 : decide (x5_1 < (l0.length : Int)) = true := zT c4
     clear c4
     by_cases c5 : 0 ≤ x5_1
     ·rw [if_pos c5] at H
      have c5b0 : decide (0 ≤ x5_1) = true := zT c5
      clear c5
      by_cases c6 : x5_1 < (l1.length : Int)
      ·rw [if_pos c6] at H
       have c6b0 : decide (x5_1 < (l1.length : Int)) = true := zT c6
       clear c6
       by_cases c7 : ((rd_T131 l0 x5_1).f0) = ((rd_T131 l1 x5_1).f0)
       ·rw [if_pos c7] at H
        have c7b0 : (((rd_T131 l0 x5_1).f0) == ((rd_T131 l1 x5_1).f0)) = true := beq_iff_eq.mpr c7
        have c7b1 : (((rd_T131 l0 x5_1).f0) != ((rd_T131 l1 x5_1).f0)) = false := bne_eq_false_iff_eq.mpr c7
        clear c7
        replace H := Option.bind_eq_some_iff.mp H
        obtain ⟨t1412, A80, H⟩ := H
        replace H : (if t1412 = true then (laws_sameSegs.l0 k1 l0 l1 (wrap64 (x5_1 + 1))) else (some false)) = some r := H
        have A8 := zA A80
        clear A80
        by_cases c9 : t1412 = true
        ·subst c9
         have H1 : (laws_sameSegs.l0 k1 l0 l1 (wrap64 (x5_1 + 1))) = some r := by rw [if_pos rfl] at H; exact H
         clear H
         have H := H1
         clear H1
         have H' := zA H
         clear H
         have p1408 : 0 ≤ (x5_1 : Int) := zI (by first | (with_reducible assumption) | assumption)
         have q1408 : x5_1 < (l0.length : Int) := zI (by first | (with_reducible assumption) | assumption)
         obtain ⟨ad1408, A1408_1, c1408_1, e1408, hx1408_0, hx1408_1, hl1408_1, hi1408_1⟩ := at_T131 HR0.out x5_1 p1408 q1408
         cases e1408
         have HR1408_1 := zA hi1408_1
         have HC1408_1 := zA hl1408_1
         clear hi1408_1 hl1408_1
         replace p1408 := eq_true p1408
         replace q1408 := eq_true q1408
         have p1409 : 0 ≤ (x5_1 : Int) := zI (by first | (with_reducible assumption) | assumption)
         have q1409 : x5_1 < (l1.length : Int) := zI (by first | (with_reducible assumption) | assumption)
         obtain ⟨ad1409, A1409_1, c1409_1, e1409, hx1409_0, hx1409_1, hl1409_1, hi1409_1⟩ := at_T131 HR1.out x5_1 p1409 q1409
         cases e1409
         have HR1409_1 := zA hi1409_1
         have HC1409_1 := zA hl1409_1
         clear hi1409_1 hl1409_1
         replace p1409 := eq_true p1409
         replace q1409 := eq_true q1409
         have p1410 : 0 ≤ (x5_1 : Int) := zI (by first | (with_reducible assumption) | assumption)
         have q1410 : x5_1 < (l0.length : Int) := zI (by first | (with_reducible assumption) | assumption)
         obtain ⟨ad1410, A1410_1, c1410_1, e1410, hx1410_0, hx1410_1, hl1410_1, hi1410_1⟩ := at_T131 HR0.out x5_1 p1410 q1410
         obtain rfl : ad1408 = ad1410 := (by injection e1410)
         have HR1410_1 := zA hi1410_1
         have HC1410_1 := zA hl1410_1
         clear hi1410_1 hl1410_1
         replace p1410 := eq_true p1410
         replace q1410 := eq_true q1410
         have ea_ := Option.some.inj (hx1408_1.symm.trans hx1410_1)
         injection ea_ with ea_ en_ ec_
         subst ea_
         subst ec_
         clear en_
         have p1411 : 0 ≤ (x5_1 : Int) := zI (by first | (with_reducible assumption) | assumption)
         have q1411 : x5_1 < (l1.length : Int) := zI (by first | (with_reducible assumption) | assumption)
         obtain ⟨ad1411, A1411_1, c1411_1, e1411, hx1411_0, hx1411_1, hl1411_1, hi1411_1⟩ := at_T131 HR1.out x5_1 p1411 q1411
         obtain rfl : ad1409 = ad1411 := (by injection e1411)
         have HR1411_1 := zA hi1411_1
         have HC1411_1 := zA hl1411_1
         clear hi1411_1 hl1411_1
         replace p1411 := eq_true p1411
         replace q1411 := eq_true q1411
         have ea_ := Option.some.inj (hx1409_1.symm.trans hx1411_1)
         injection ea_ with ea_ en_ ec_
         subst ea_
         subst ec_
         clear en_
         go_wp2_with (first | (go_at_call 49; (with_reducible refine (laws_sameBytes.calls k1 _ _ ((rd_T131 l0 x5_1).f1) _ _ ((rd_T131 l1 x5_1).f1) true _ ?side1 ?side2 ?side3 ?side4 A8.out).mono ?_); (case side1 => repeat (first | exact HR1410_1.out | (with_reducible refine yN ?_ _) | (with_reducible refine yL ?_ _) | (with_reducible refine yM ?_))); (case side2 => exact HC1410_1.out); (case side3 => repeat (first | exact HR1411_1.out | (with_reducible refine yN ?_ _) | (with_reducible refine yL ?_ _) | (with_reducible refine yM ?_))); (case side4 => exact HC1411_1.out); rintro e w' ⟨rfl, ⟨nd, rfl⟩⟩; (try first | exact ⟨rfl, _, World.drewN_drewN _ _ _⟩ | exact ⟨rfl, _, Eq.trans (World.drewN_drewN _ _ _) (congrArg (World.drewN _) (Nat.add_assoc _ _ _))⟩)))
         repeat (go_quiet (first | (go_at_call 49; (with_reducible refine (laws_sameBytes.calls k1 _ _ ((rd_T131 l0 x5_1).f1) _ _ ((rd_T131 l1 x5_1).f1) true _ ?side1 ?side2 ?side3 ?side4 A8.out).mono ?_); (case side1 => repeat (first | exact HR1410_1.out | (with_reducible refine yN ?_ _) | (with_reducible refine yL ?_ _) | (with_reducible refine yM ?_))); (case side2 => exact HC1410_1.out); (case side3 => repeat (first | exact HR1411_1.out | (with_reducible refine yN ?_ _) | (with_reducible refine yL ?_ _) | (with_reducible refine yM ?_))); (case side4 => exact HC1411_1.out); rintro e w' ⟨rfl, ⟨nd, rfl⟩⟩; (try first | exact ⟨rfl, _, World.drewN_drewN _ _ _⟩ | exact ⟨rfl, _, Eq.trans (World.drewN_drewN _ _ _) (congrArg (World.drewN _) (Nat.add_assoc _ _ _))⟩))); try go_wp2_with (first | (go_at_call 49; (with_reducible refine (laws_sameBytes.calls k1 _ _ ((rd_T131 l0 x5_1).f1) _ _ ((rd_T131 l1 x5_1).f1) true _ ?side1 ?side2 ?side3 ?side4 A8.out).mono ?_); (case side1 => repeat (first | exact HR1410_1.out | (with_reducible refine yN ?_ _) | (with_reducible refine yL ?_ _) | (with_reducible refine yM ?_))); (case side2 => exact HC1410_1.out); (case side3 => repeat (first | exact HR1411_1.out | (with_reducible refine yN ?_ _) | (with_reducible refine yL ?_ _) | (with_reducible refine yM ?_))); (case side4 => exact HC1411_1.out); rintro e w' ⟨rfl, ⟨nd, rfl⟩⟩; (try first | exact ⟨rfl, _, World.drewN_drewN _ _ _⟩ | exact ⟨rfl, _, Eq.trans (World.drewN_drewN _ _ _) (congrArg (World.drewN _) (Nat.add_assoc _ _ _))⟩))))
         go_roundg k1
         case measure => have := HK1.out; omega
         case rel => exact ⟨(wrap64 (x5_1 + 1)), (by first | rfl | (simp; done) | (simp [*]; done)), H', ⟨by have := HK1.out; omega⟩, by repeat (first | exact Drawn0.refl _ | apply Drawn0.step)⟩
        ·replace c9 := Bool.eq_false_iff.mpr c9
         subst c9
         have H1 : (some false) = some r := by rw [if_neg (show ¬ (false = true) by decide)] at H; exact H
         clear H
         have H := H1
         clear H1
         obtain rfl := Option.some.inj H
         have p1408 : 0 ≤ (x5_1 : Int) := zI (by first | (with_reducible assumption) | assumption)
         have q1408 : x5_1 < (l0.length : Int) := zI (by first | (with_reducible assumption) | assumption)
         obtain ⟨ad1408, A1408_1, c1408_1, e1408, hx1408_0, hx1408_1, hl1408_1, hi1408_1⟩ := at_T131 HR0.out x5_1 p1408 q1408
         cases e1408
         have HR1408_1 := zA hi1408_1
         have HC1408_1 := zA hl1408_1
         clear hi1408_1 hl1408_1
         replace p1408 := eq_true p1408
         replace q1408 := eq_true q1408
         have p1409 : 0 ≤ (x5_1 : Int) := zI (by first | (with_reducible assumption) | assumption)
         have q1409 : x5_1 < (l1.length : Int) := zI (by first | (with_reducible assumption) | assumption)
         obtain ⟨ad1409, A1409_1, c1409_1, e1409, hx1409_0, hx1409_1, hl1409_1, hi1409_1⟩ := at_T131 HR1.out x5_1 p1409 q1409
         cases e1409
         have HR1409_1 := zA hi1409_1
         have HC1409_1 := zA hl1409_1
         clear hi1409_1 hl1409_1
         replace p1409 := eq_true p1409
         replace q1409 := eq_true q1409
         have p1410 : 0 ≤ (x5_1 : Int) := zI (by first | (with_reducible assumption) | assumption)
         have q1410 : x5_1 < (l0.length : Int) := zI (by first | (with_reducible assumption) | assumption)
         obtain ⟨ad1410, A1410_1, c1410_1, e1410, hx1410_0, hx1410_1, hl1410_1, hi1410_1⟩ := at_T131 HR0.out x5_1 p1410 q1410
         obtain rfl : ad1408 = ad1410 := (by injection e1410)
         have HR1410_1 := zA hi1410_1
         have HC1410_1 := zA hl1410_1
         clear hi1410_1 hl1410_1
         replace p1410 := eq_true p1410
         replace q1410 := eq_true q1410
         have ea_ := Option.some.inj (hx1408_1.symm.trans hx1410_1)
         injection ea_ with ea_ en_ ec_
         subst ea_
         subst ec_
         clear en_
         have p1411 : 0 ≤ (x5_1 : Int) := zI (by first | (with_reducible assumption) | assumption)
         have q1411 : x5_1 < (l1.length : Int) := zI (by first | (with_reducible assumption) | assumption)
         obtain ⟨ad1411, A1411_1, c1411_1, e1411, hx1411_0, hx1411_1, hl1411_1, hi1411_1⟩ := at_T131 HR1.out x5_1 p1411 q1411
         obtain rfl : ad1409 = ad1411 := (by injection e1411)
         have HR1411_1 := zA hi1411_1
         have HC1411_1 := zA hl1411_1
         clear hi1411_1 hl1411_1
         replace p1411 := eq_true p1411
         replace q1411 := eq_true q1411
         have ea_ := Option.some.inj (hx1409_1.symm.trans hx1411_1)
         injection ea_ with ea_ en_ ec_
         subst ea_
         subst ec_
         clear en_
         go_wp2_with (first | (go_at_call 49; (with_reducible refine (laws_sameBytes.calls k1 _ _ ((rd_T131 l0 x5_1).f1) _ _ ((rd_T131 l1 x5_1).f1) false _ ?side1 ?side2 ?side3 ?side4 A8.out).mono ?_); (case side1 => repeat (first | exact HR1410_1.out | (with_reducible refine yN ?_ _) | (with_reducible refine yL ?_ _) | (with_reducible refine yM ?_))); (case side2 => exact HC1410_1.out); (case side3 => repeat (first | exact HR1411_1.out | (with_reducible refine yN ?_ _) | (with_reducible refine yL ?_ _) | (with_reducible refine yM ?_))); (case side4 => exact HC1411_1.out); rintro e w' ⟨rfl, ⟨nd, rfl⟩⟩; (try first | exact ⟨rfl, _, World.drewN_drewN _ _ _⟩ | exact ⟨rfl, _, Eq.trans (World.drewN_drewN _ _ _) (congrArg (World.drewN _) (Nat.add_assoc _ _ _))⟩)))
         repeat (go_quiet (first | (go_at_call 49; (with_reducible refine (laws_sameBytes.calls k1 _ _ ((rd_T131 l0 x5_1).f1) _ _ ((rd_T131 l1 x5_1).f1) false _ ?side1 ?side2 ?side3 ?side4 A8.out).mono ?_); (case side1 => repeat (first | exact HR1410_1.out | (with_reducible refine yN ?_ _) | (with_reducible refine yL ?_ _) | (with_reducible refine yM ?_))); (case side2 => exact HC1410_1.out); (case side3 => repeat (first | exact HR1411_1.out | (with_reducible refine yN ?_ _) | (with_reducible refine yL ?_ _) | (with_reducible refine yM ?_))); (case side4 => exact HC1411_1.out); rintro e w' ⟨rfl, ⟨nd, rfl⟩⟩; (try first | exact ⟨rfl, _, World.drewN_drewN _ _ _⟩ | exact ⟨rfl, _, Eq.trans (World.drewN_drewN _ _ _) (congrArg (World.drewN _) (Nat.add_assoc _ _ _))⟩))); try go_wp2_with (first | (go_at_call 49; (with_reducible refine (laws_sameBytes.calls k1 _ _ ((rd_T131 l0 x5_1).f1) _ _ ((rd_T131 l1 x5_1).f1) false _ ?side1 ?side2 ?side3 ?side4 A8.out).mono ?_); (case side1 => repeat (first | exact HR1410_1.out | (with_reducible refine yN ?_ _) | (with_reducible refine yL ?_ _) | (with_reducible refine yM ?_))); (case side2 => exact HC1410_1.out); (case side3 => repeat (first | exact HR1411_1.out | (with_reducible refine yN ?_ _) | (with_reducible refine yL ?_ _) | (with_reducible refine yM ?_))); (case side4 => exact HC1411_1.out); rintro e w' ⟨rfl, ⟨nd, rfl⟩⟩; (try first | exact ⟨rfl, _, World.drewN_drewN _ _ _⟩ | exact ⟨rfl, _, Eq.trans (World.drewN_drewN _ _ _) (congrArg (World.drewN _) (Nat.add_assoc _ _ _))⟩))))
         go_ret
         exact ⟨by first | rfl | (simp; done) | (simp [*]; done), by repeat (first | exact Drawn0.refl _ | apply Drawn0.step)⟩
       ·rw [if_neg c7] at H
        have c7b0 : (((rd_T131 l0 x5_1).f0) == ((rd_T131 l1 x5_1).f0)) = false := beq_eq_false_iff_ne.mpr c7
        have c7b1 : (((rd_T131 l0 x5_1).f0) != ((rd_T131 l1 x5_1).f0)) = true := bne_iff_ne.mpr c7
        obtain rfl := Option.some.inj H
        have p1408 : 0 ≤ (x5_1 : Int) := zI (by first | (with_reducible assumption) | assumption)
        have q1408 : x5_1 < (l0.length : Int) := zI (by first | (with_reducible assumption) | assumption)
        obtain ⟨ad1408, A1408_1, c1408_1, e1408, hx1408_0, hx1408_1, hl1408_1, hi1408_1⟩ := at_T131 HR0.out x5_1 p1408 q1408
        cases e1408
        have HR1408_1 := zA hi1408_1
        have HC1408_1 := zA hl1408_1
        clear hi1408_1 hl1408_1
        replace p1408 := eq_true p1408
        replace q1408 := eq_true q1408
        have p1409 : 0 ≤ (x5_1 : Int) := zI (by first | (with_reducible assumption) | assumption)
        have q1409 : x5_1 < (l1.length : Int) := zI (by first | (with_reducible assumption) | assumption)
        obtain ⟨ad1409, A1409_1, c1409_1, e1409, hx1409_0, hx1409_1, hl1409_1, hi1409_1⟩ := at_T131 HR1.out x5_1 p1409 q1409
        cases e1409
        have HR1409_1 := zA hi1409_1
        have HC1409_1 := zA hl1409_1
        clear hi1409_1 hl1409_1
        replace p1409 := eq_true p1409
        replace q1409 := eq_true q1409
        go_wp2
        repeat (go_quiet (fail); try go_wp2)
        go_ret
        exact ⟨by first | rfl | (simp; done) | (simp [*]; done), by repeat (first | exact Drawn0.refl _ | apply Drawn0.step)⟩
      ·rw [if_neg c6] at H
       exact absurd H (by simp)
     ·rw [if_neg c5] at H
      exact absurd H (by simp)
    ·rw [if_neg c4] at H
     have c4b0 : decide (x5_1 < (l0.length : Int)) = false := decide_eq_false c4
     clear c4
     obtain rfl := Option.some.inj H
     go_wp2
     repeat (go_quiet (fail); try go_wp2)
     go_ret
     exact ⟨by first | rfl | (simp; done) | (simp [*]; done), by repeat (first | exact Drawn0.refl _ | apply Drawn0.step)⟩
 ·rw [if_neg c3] at H
  have c3b0 : ((l0.length : Int) == (l1.length : Int)) = false := beq_eq_false_iff_ne.mpr c3
  have c3b1 : ((l0.length : Int) != (l1.length : Int)) = true := bne_iff_ne.mpr c3
  have c3b2 : (l0.length == l1.length) = false := by first | simpa using c3 | (simp at c3 ⊢; omega)
  obtain rfl := Option.some.inj H
  go_enter Try.func74, Try.ntmps74
  go_wp2
  repeat (go_quiet (fail); try go_wp2)
  go_ret
  exact ⟨by first | rfl | (simp; done) | (simp [*]; done), by repeat (first | exact Drawn0.refl _ | apply Drawn0.step)⟩
theorem laws_sameSegs.l0_ev (l : List S131) (hl : l.length ≤ 281474976710656) (hs : ∀ s ∈ l, s.f1.length ≤ 281474976710656) : ∀ (d i : Nat), i + d = l.length → Ev (fun k => laws_sameSegs.l0 k l l (i : Int)) true := by
 intro d
 induction d with
 | zero =>
  intro i hi
  exact Ev.step (fun _ => by rw [laws_sameSegs.l0]) (Ev.ng (by omega) (Ev.now _))
 | succ d ih =>
  intro i hi
  have hlt : i < l.length := by omega
  have h1 := hs _ (List.getElem_mem hlt)
  have e : rd_T131 l (i : Int) = l[i] := by unfold rd_T131; rw [Int.toNat_natCast]; simp [hlt]
  refine Ev.step (fun _ => by rw [laws_sameSegs.l0]) (Ev.ip (by omega) (Ev.ip (by omega) (Ev.ip (by omega) (Ev.ip rfl ?_))))
  rw [e, wrap_succ i (by omega)]
  exact Ev.bind (laws_sameBytes.same _ h1) (Ev.ip rfl (ih (i + 1) (by omega)))
theorem laws_sameSegs.same (l : List S131) (hl : l.length ≤ 281474976710656) (hs : ∀ s ∈ l, s.f1.length ≤ 281474976710656) : Ev (fun k => laws_sameSegs.f k l l) true := Ev.ip rfl (laws_sameSegs.l0_ev l hl hs l.length 0 (Nat.zero_add _))
end Go.Proofs.Ytcjjmfpkhhdmlaa.G


namespace Go.Proofs.Ytcjjmfpkhhdmlaa.G
open Go.RowKit Go.Proofs.YtcjjmfpkhhdmlaaW.PrintWords Go.Proofs.YtcjjmfpkhhdmlaaW.PrintLast Go.Proofs.YtcjjmfpkhhdmlaaW.PrintMore
attribute [local go_sem] max2_int min2_int max_two min_two max_three min_three max_four min_four   -- for this text's walks alone
def rdI (b : List Int) : Nat → Nat → List S131 → List S131 × Int × Int
 | 0, _, l => (l, 0, 0)
 | n + 1, at_, l =>
  if (nxt b at_ l).2.1 ≠ 0 then ([], (nxt b at_ l).2.1, (nxt b at_ l).2.2.1)
  else if (nxt b at_ l).1 = true then (if (nxt b at_ l).2.2.2.1 < b.length then ([], 7, ((nxt b at_ l).2.2.2.1 : Int)) else (l, 0, 0))
  else rdI b n (nxt b at_ l).2.2.2.1 (nxt b at_ l).2.2.2.2
def readSM (b : List Int) : List S131 × Int × Int :=
 if 60000 < b.length then ([], 1, 0) else if b.length < 2 ∨ rd b 0 ≠ 84 ∨ rd b 1 ≠ 83 then ([], 2, 0) else rdI b (b.length + 1) 2 []
theorem rd_take (l : List Int) (m j : Nat) (h : j < m) : rd (l.take m) (j : Int) = rd l (j : Int) := by
 unfold rd
 rw [Int.toNat_natCast]
 simp [List.getD, List.getElem?_take, h]
/-- what is told is over, and without a fault: so it is read -/
theorem sf_rd (b : List Int) : ∀ (n at_ : Nat) (l : List S131), (sfI b n at_ l).2.1 = true → (sfI b n at_ l).2.2.1 = 0 → (rdI b n at_ l).2.1 = 0 := by
 intro n
 induction n with
 | zero => intro at_ l h; simp [sfI] at h
 | succ n ih =>
  intro at_ l h1 h2
  unfold sfI at h1 h2
  unfold rdI
  by_cases h3 : (nxt b at_ l).2.1 = 3
  ·rw [if_pos h3] at h1
   split at h1 <;> simp at h1
  ·rw [if_neg h3] at h1 h2
   by_cases h0 : (nxt b at_ l).2.1 ≠ 0
   ·rw [if_pos h0] at h1; simp at h1
   ·rw [if_neg h0] at h1 h2 ⊢
    by_cases he : (nxt b at_ l).1 = true
    ·rw [if_pos he] at h2 ⊢
     by_cases hl : (nxt b at_ l).2.2.2.1 < b.length
     ·rw [if_pos hl] at h2; simp at h2
     ·rw [if_neg hl]
    ·rw [if_neg he] at h1 h2 ⊢
     exact ih _ _ h1 h2
/-- what is read is told, and over -/
theorem rd_sf (b : List Int) (hb : ∀ x ∈ b, 0 ≤ x ∧ x ≤ 255) : ∀ (n at_ : Nat) (l : List S131), at_ ≤ b.length → l.length ≤ 300 → b.length < at_ + n → (rdI b n at_ l).2.1 = 0 → sfI b n at_ l = ((rdI b n at_ l).1, true, 0, 0) ∧ l <+: (rdI b n at_ l).1 := by
 intro n
 induction n with
 | zero => intro at_ l h1 _ h3; omega
 | succ n ih =>
  intro at_ l hat hl hfu h0
  obtain ⟨f1, f2, f3⟩ := nxt_facts b at_ l hat hl
  unfold sfI
  unfold rdI at h0 ⊢
  rcases nxt_shape b at_ l hl hb with ⟨c, p, hn, hc⟩ | hn | ⟨m, d, n2, hn, hm0, hm1, hl3, hend⟩
  ·rw [hn] at h0
   simp only [] at h0
   rw [if_pos hc] at h0
   exact absurd h0 hc
  ·rw [hn] at h0 ⊢
   simp only [] at h0 ⊢
   rw [if_neg (by decide), if_pos trivial] at h0
   by_cases hlt : at_ + 2 < b.length
   ·rw [if_pos hlt] at h0; simp at h0
   ·rw [if_neg (by decide), if_neg (by decide), if_pos trivial, if_neg hlt, if_neg (by decide), if_pos trivial, if_neg hlt]
    exact ⟨rfl, List.prefix_refl _⟩
  ·rw [hn] at h0 f1 f2 f3 ⊢
   simp only [] at h0 f1 f2 f3 ⊢
   have f4 := f3 trivial trivial
   rw [if_neg (by decide), if_neg (by decide)] at h0
   rw [if_neg (by decide), if_neg (by decide), if_neg (by decide), if_neg (by decide), if_neg (by decide)]
   obtain ⟨g1, g2⟩ := ih n2 _ f1 f2 (by omega) h0
   exact ⟨g1, (List.prefix_append _ _).trans g2⟩
/-- run data, cut -/
theorem un_take : ∀ (n : Nat) (l : List Int), l.length ≤ n → ∀ m : Nat, (un (l.take m)).1.length ≤ (un l).1.length ∧ ((l.take m).drop (un (l.take m)).2 = [] ∨ (l.take m).drop (un (l.take m)).2 = [255] ∨ un (l.take m) = un l) := by
 intro n
 induction n with
 | zero =>
  intro l h m
  obtain rfl : l = [] := List.eq_nil_of_length_eq_zero (by omega)
  simp [un]
 | succ n ih =>
  intro l h m
  match l, m, h with
  | [], _, _ => simp [un]
  | x :: t, 0, _ => simp [un]
  | x :: t, m + 1, h =>
   rw [List.take_succ_cons]
   by_cases hx : x = 255
   ·subst hx
    match t, m, h with
    | [], _, _ => rw [List.take_nil, un_one]; simp
    | y :: t, 0, _ => rw [List.take_zero, un_one]; simp
    | y :: t, m + 1, h =>
     rw [List.take_succ_cons]
     by_cases hy : y = 0
     ·subst hy
      rw [un_two, un_two]
      obtain ⟨h1, h2⟩ := ih t (by simp at h; omega) m
      refine ⟨by simp; omega, ?_⟩
      rcases h2 with h2 | h2 | h2
      ·left; simpa using h2
      ·right; left; simpa using h2
      ·right; right; rw [h2]
     ·rw [un_stop _ _ hy, un_stop _ _ hy]; simp
   ·rw [un_ne x _ hx, un_ne x _ hx]
    obtain ⟨h1, h2⟩ := ih t (by simp at h; omega) m
    refine ⟨by simp; omega, ?_⟩
    rcases h2 with h2 | h2 | h2
    ·left; simpa using h2
    ·right; left; simpa using h2
    ·right; right; rw [h2]
theorem un_pos2 (l : List Int) (h : ¬ (l = [] ∨ l = [255])) (hm : markM l = 0) : 1 ≤ (un l).2 := by
 match l, h, hm with
 | [], h, _ => exact absurd (.inl rfl) h
 | [x], h, _ =>
  rw [un_ne x [] (fun e => h (.inr (by rw [e])))]
  simp
 | x :: y :: t, h, hm =>
  by_cases hx : x = 255
  ·subst hx
   have : y = 0 := by
    unfold markM at hm
    simp [rd] at hm
    exact Decidable.byContradiction (fun h => h (hm h))
   subst this
   rw [un_two]; simp
  ·rw [un_ne x _ hx]; simp
theorem markM_take (l : List Int) (m : Nat) (h : ¬ (l.take m = [] ∨ l.take m = [255])) : markM (l.take m) = markM l := by
 match l, m, h with
 | [], m, h => exact absurd (.inl (by simp)) h
 | x :: t, 0, h => exact absurd (.inl (by simp)) h
 | x :: t, 1, h =>
  have hx : x ≠ 255 := fun e => h (.inr (by simp [e]))
  unfold markM
  simp [rd, hx]
 | x :: t, m + 2, h =>
  unfold markM
  rw [show (0 : Int) = ((0 : Nat) : Int) from rfl, show (1 : Int) = ((1 : Nat) : Int) from rfl, rd_take _ _ 0 (by omega), rd_take _ _ 1 (by omega)]
/-- one segment of a beginning -/
theorem nxt_cut (b : List Int) (hb : ∀ x ∈ b, 0 ≤ x ∧ x ≤ 255) (k at_ : Nat) (l : List S131) (hk : k < b.length) (hat : at_ ≤ k) (h0 : (nxt b at_ l).2.1 = 0) :
  (∃ p, nxt (b.take k) at_ l = (false, 3, p, at_, l)) ∨ (nxt b at_ l = (true, 0, 0, at_ + 2, l) ∧ at_ + 2 ≤ k) ∨
   (∃ n2 l2, nxt b at_ l = (false, 0, 0, n2, l2) ∧ nxt (b.take k) at_ l = (false, 0, 0, n2, l2) ∧ n2 ≤ k) ∨
   (∃ d n2, nxt (b.take k) at_ l = (false, 0, 0, n2, l ++ [⟨0, d⟩]) ∧ at_ < n2 ∧ n2 ≤ k ∧ ((b.take k).drop n2 = [] ∨ (b.take k).drop n2 = [255])) := by
 have hr : (b.take k).drop at_ = (b.drop at_).take (k - at_) := by rw [List.drop_take]
 have hbl : (b.drop at_).length = b.length - at_ := zR
 have hrl : ((b.drop at_).take (k - at_)).length = k - at_ := by rw [zQ]; omega
 by_cases he : (b.drop at_).take (k - at_) = [] ∨ (b.drop at_).take (k - at_) = [255]
 ·left
  exact ⟨_, by unfold nxt; rw [hr, if_pos he]⟩
 have he2 : ¬ (b.drop at_ = [] ∨ b.drop at_ = [255]) := by
  rintro (e | e)
  ·exact he (.inl (by rw [e]; simp))
  ·have : (b.drop at_).length = 1 := by rw [e]; rfl
   exact he (.inl (List.eq_nil_of_length_eq_zero (by omega)))
 have hm := markM_take (b.drop at_) (k - at_) he
 have hlen1 : 1 ≤ k - at_ := by
  rcases Nat.eq_zero_or_pos (k - at_) with h | h
  ·exact absurd (.inl (List.eq_nil_of_length_eq_zero (by omega))) he
  ·exact h
 have h255 : markM (b.drop at_) ≠ 0 → 2 ≤ k - at_ := by
  intro hz
  rcases Nat.lt_or_ge 1 (k - at_) with h | h
  ·exact h
  ·exfalso
   have e1 : k - at_ = 1 := by omega
   rw [e1] at he
   cases hd : b.drop at_ with
   | nil => rw [hd] at he; exact he (.inl rfl)
   | cons x t =>
    rw [hd] at he hz
    have hx : x ≠ 255 := fun e => he (.inr (by rw [e]; rfl))
    exact hz (by unfold markM; simp [rd, hx])
 have hun := un_take _ (b.drop at_) (Nat.le_refl _) (k - at_)
 have hup := un_pos2 ((b.drop at_).take (k - at_)) he
 have hule := un_le ((b.drop at_).take (k - at_))
 rw [hm] at hup
 have hdd : ∀ j, (b.take k).drop (at_ + j) = ((b.drop at_).take (k - at_)).drop j := fun j => by rw [← hr, List.drop_drop]
 have hlm : 4 ≤ k - at_ → lenM ((b.drop at_).take (k - at_)) = lenM (b.drop at_) := by
  intro h4
  unfold lenM
  rw [show (2 : Int) = ((2 : Nat) : Int) from rfl, show (3 : Int) = ((3 : Nat) : Int) from rfl, rd_take _ _ 2 (by omega), rd_take _ _ 3 (by omega)]
 unfold nxt at h0 ⊢
 rw [hr, if_neg he, if_neg he2, hm]
 rw [if_neg he2] at h0
 generalize hR : b.drop at_ = R at *
 generalize hT : R.take (k - at_) = T at *
 by_cases h254 : markM R = 254
 ·rw [if_pos h254, if_pos h254]
  exact .inr (.inl ⟨rfl, by have := h255 (by omega); omega⟩)
 rw [if_neg h254] at h0
 rw [if_neg h254, if_neg h254]
 by_cases hbd : badM (markM R) l = true
 ·rw [if_pos hbd] at h0; simp at h0
 rw [if_neg hbd] at h0
 rw [if_neg hbd, if_neg hbd]
 by_cases h3 : l.length = 300
 ·rw [if_pos h3] at h0; simp at h0
 rw [if_neg h3] at h0
 rw [if_neg h3, if_neg h3]
 by_cases hm0 : markM R = 0
 ·rw [if_pos hm0] at h0
  rw [if_pos hm0, if_pos hm0]
  by_cases h20 : 20000 < (un R).1.length
  ·rw [if_pos h20] at h0; simp at h0
  rw [if_neg h20, if_neg (by omega)]
  have hup := hup hm0
  rcases hun.2 with h | h | h
  ·exact .inr (.inr (.inr ⟨_, _, rfl, by omega, by omega, .inl (by rw [hdd]; exact h)⟩))
  ·exact .inr (.inr (.inr ⟨_, _, rfl, by omega, by omega, .inr (by rw [hdd]; exact h)⟩))
  ·rw [h] at hule ⊢
   exact .inr (.inr (.inl ⟨_, _, rfl, rfl, by omega⟩))
 rw [if_neg hm0] at h0
 rw [if_neg hm0, if_neg hm0]
 have h2 := h255 hm0
 by_cases hi : isRest (markM R) = true
 ·rw [if_pos hi, if_pos hi]
  exact .inr (.inr (.inl ⟨_, _, rfl, rfl, by omega⟩))
 rw [if_neg hi] at h0
 rw [if_neg hi, if_neg hi]
 by_cases h4 : R.length < 4
 ·rw [if_pos h4] at h0; simp at h0
 rw [if_neg h4] at h0
 by_cases h4k : T.length < 4
 ·rw [if_pos h4k]
  exact .inl ⟨_, rfl⟩
 rw [if_neg h4, if_neg h4k, hlm (by omega)]
 by_cases h20 : 20000 < lenM R
 ·rw [if_pos h20] at h0; simp at h0
 rw [if_neg h20] at h0
 rw [if_neg h20, if_neg h20]
 by_cases h4n : (R.length : Int) < 4 + lenM R
 ·rw [if_pos h4n] at h0; simp at h0
 by_cases h4t : (T.length : Int) < 4 + lenM R
 ·rw [if_pos h4t]
  exact .inl ⟨_, rfl⟩
 rw [if_neg h4n, if_neg h4t]
 refine .inr (.inr (.inl ⟨_, _, rfl, ?_, by omega⟩))
 rw [← hT, List.drop_take, List.take_take, show min (lenM R).toNat (k - at_ - 4) = (lenM R).toNat by omega]
/-- a beginning tells the first of what is read, is not over, and has no fault -/
theorem cut_told (b : List Int) (hb : ∀ x ∈ b, 0 ≤ x ∧ x ≤ 255) (k : Nat) (hk : k < b.length) : ∀ (n n2 at_ : Nat) (l : List S131), at_ ≤ k → l.length ≤ 300 → b.length < at_ + n → k < at_ + n2 → (rdI b n at_ l).2.1 = 0 →
  ∃ some_, sfI (b.take k) n2 at_ l = (some_, false, 0, 0) ∧ some_ <+: (rdI b n at_ l).1 := by
 intro n
 induction n with
 | zero => intro n2 at_ l h1 _ h3; omega
 | succ n ih =>
  intro n2 at_ l hat hl hfu hfu2 h0
  obtain ⟨_, hpre⟩ := rd_sf b hb (n + 1) at_ l (by omega) hl hfu h0
  obtain ⟨f1, f2, f3⟩ := nxt_facts b at_ l (by omega) hl
  have hkl : (b.take k).length = k := by rw [zQ]; omega
  cases n2 with
  | zero => omega
  | succ n2 =>
   have hc0 : (nxt b at_ l).2.1 = 0 := by
    unfold rdI at h0
    by_cases h : (nxt b at_ l).2.1 ≠ 0
    ·rw [if_pos h] at h0; exact absurd h0 h
    ·exact Decidable.not_not.1 h
   have three : ∀ (m at2 : Nat) (l2 : List S131) (p : Int), nxt (b.take k) at2 l2 = (false, 3, p, at2, l2) → sfI (b.take k) (m + 1) at2 l2 = ((if mayRestM l2 = true ∧ k - at2 < 2 then l2.dropLast else l2), false, 0, 0) := by
    intro m at2 l2 p h
    unfold sfI
    rw [h, hkl]
    simp only []
    rw [if_pos trivial]
    split <;> rfl
   rcases nxt_cut b hb k at_ l hk hat hc0 with ⟨p, h⟩ | ⟨h, h2⟩ | ⟨a2, l2, h1, h2, h3⟩ | ⟨d, a2, h, h2, h3, h4⟩
   ·refine ⟨_, three n2 at_ l p h, ?_⟩
    split
    ·exact (List.dropLast_prefix _).trans hpre
    ·exact hpre
   ·exfalso
    unfold rdI at h0
    rw [h] at h0
    simp only [] at h0
    rw [if_neg (by decide), if_pos trivial] at h0
    by_cases hlt : at_ + 2 < b.length
    ·rw [if_pos hlt] at h0; simp at h0
    ·omega
   ·rw [h1] at f1 f2 f3
    simp only [] at f1 f2 f3
    have f4 := f3 trivial trivial
    have e1 : rdI b (n + 1) at_ l = rdI b n a2 l2 := by
     conv => lhs; unfold rdI
     rw [h1]
     simp only []
     rw [if_neg (by decide), if_neg (by decide)]
    have e2 : sfI (b.take k) (n2 + 1) at_ l = sfI (b.take k) n2 a2 l2 := by
     conv => lhs; unfold sfI
     rw [h2]
     simp only []
     rw [if_neg (by decide), if_neg (by decide), if_neg (by decide)]
    rw [e1] at h0 ⊢
    rw [e2]
    exact ih n2 a2 l2 h3 f2 (by omega) (by omega) h0
   ·have e2 : sfI (b.take k) (n2 + 1) at_ l = sfI (b.take k) n2 a2 (l ++ [⟨0, d⟩]) := by
     conv => lhs; unfold sfI
     rw [h]
     simp only []
     rw [if_neg (by decide), if_neg (by decide), if_neg (by decide)]
    rw [e2]
    cases n2 with
    | zero => omega
    | succ n3 =>
     have hx : nxt (b.take k) a2 (l ++ [⟨0, d⟩]) = (false, 3, ((b.take k).length : Int), a2, l ++ [⟨0, d⟩]) := by
      conv => lhs; unfold nxt
      rw [if_pos h4]
     refine ⟨_, three n3 a2 _ _ hx, ?_⟩
     have hl1 : k - a2 < 2 := by
      have : ((b.take k).drop a2).length = k - a2 := by rw [zR, hkl]
      rcases h4 with e | e <;> rw [e] at this <;> simp at this <;> omega
     rw [if_pos ⟨by unfold mayRestM; simp, hl1⟩, List.dropLast_concat]
     exact hpre
/-- the law of the beginnings, in plain words -/
theorem soFar_cut (b : List Int) (hb : ∀ x ∈ b, 0 ≤ x ∧ x ≤ 255) (h0 : (readSM b).2.1 = 0) (k : Nat) (hk : k < b.length) : ∃ some_, soFarM (b.take k) = (some_, false, 0, 0) ∧ some_ <+: (readSM b).1 := by
 unfold readSM at h0 ⊢
 by_cases h6 : 60000 < b.length
 ·rw [if_pos h6] at h0; simp at h0
 rw [if_neg h6] at h0 ⊢
 by_cases hs : b.length < 2 ∨ rd b 0 ≠ 84 ∨ rd b 1 ≠ 83
 ·rw [if_pos hs] at h0; simp at h0
 rw [if_neg hs] at h0 ⊢
 have hkl : (b.take k).length = k := by rw [zQ]; omega
 have h84 : rd b 0 = 84 := Decidable.byContradiction (fun h => hs (.inr (.inl h)))
 have h83 : rd b 1 = 83 := Decidable.byContradiction (fun h => hs (.inr (.inr h)))
 unfold soFarM
 rw [hkl, if_neg (by omega)]
 by_cases h2 : k < 2
 ·have : k = 0 ∨ (k = 1 ∧ rd (b.take k) 0 = 84) := by
   rcases Nat.eq_zero_or_pos k with h | h
   ·exact .inl h
   ·refine .inr ⟨by omega, ?_⟩
    have := rd_take b k 0 h
    rw [show ((0 : Nat) : Int) = 0 from rfl] at this
    rw [this, h84]
  rw [if_pos this]
  exact ⟨[], rfl, List.nil_prefix⟩
 ·have r0 := rd_take b k 0 (by omega)
  have r1 := rd_take b k 1 (by omega)
  rw [show ((0 : Nat) : Int) = 0 from rfl] at r0
  rw [show ((1 : Nat) : Int) = 1 from rfl] at r1
  rw [if_neg (by omega), if_neg (by rw [r0, r1, h84, h83]; simp; omega)]
  exact cut_told b hb k hk (b.length + 1) (k + 1) 2 [] (by omega) (by simp) (by omega) (by omega) h0
/-- what is read is told, and over; what is not read is not told as over without a fault -/
theorem soFar_whole (b : List Int) (hb : ∀ x ∈ b, 0 ≤ x ∧ x ≤ 255) (h0 : (readSM b).2.1 = 0) : soFarM b = ((readSM b).1, true, 0, 0) := by
 unfold readSM at h0 ⊢
 unfold soFarM
 by_cases h6 : 60000 < b.length
 ·rw [if_pos h6] at h0; simp at h0
 rw [if_neg h6] at h0 ⊢
 rw [if_neg h6]
 by_cases hs : b.length < 2 ∨ rd b 0 ≠ 84 ∨ rd b 1 ≠ 83
 ·rw [if_pos hs] at h0; simp at h0
 rw [if_neg hs] at h0 ⊢
 rw [if_neg (by omega), if_neg hs]
 exact (rd_sf b hb (b.length + 1) 2 [] (by omega) (by simp) (by omega) h0).1
theorem soFar_not (b : List Int) (h0 : (readSM b).2.1 ≠ 0) : (soFarM b).2.2.1 ≠ 0 ∨ (soFarM b).2.1 = false := by
 unfold readSM at h0
 unfold soFarM
 by_cases h6 : 60000 < b.length
 ·rw [if_pos h6]; exact .inr rfl
 rw [if_neg h6] at h0 ⊢
 by_cases h1 : b.length = 0 ∨ b.length = 1 ∧ rd b 0 = 84
 ·rw [if_pos h1]; exact .inr rfl
 rw [if_neg h1]
 by_cases hs : b.length < 2 ∨ rd b 0 ≠ 84 ∨ rd b 1 ≠ 83
 ·rw [if_pos hs]; exact .inr rfl
 rw [if_neg hs] at h0 ⊢
 by_cases hc : (sfI b (b.length + 1) 2 []).2.2.1 = 0
 ·by_cases ho : (sfI b (b.length + 1) 2 []).2.1 = true
  ·exact absurd (sf_rd b _ _ _ ho hc) h0
  ·exact .inr (by simpa using ho)
 ·exact .inl hc
end Go.Proofs.Ytcjjmfpkhhdmlaa.G


namespace Go.Proofs.Ytcjjmfpkhhdmlaa.G
open Go.RowKit Go.Proofs.YtcjjmfpkhhdmlaaW.PrintWords Go.Proofs.YtcjjmfpkhhdmlaaW.PrintLast Go.Proofs.YtcjjmfpkhhdmlaaW.PrintMore
attribute [local go_sem] max2_int min2_int max_two min_two max_three min_three max_four min_four   -- for this text's walks alone
mutual
def spec_ReadSegs.j0 : Nat → List Int → List (S131) → Bool → Option ((List (S131)) × Int × Int)
 | 0, _, _, _ => none
 | k + 1, x0, x4, x31 => if x31 = true then (some (x4, 2, 0)) else (spec_ReadSegs.l0 k x0 x4 2 0)
def spec_ReadSegs.l0 : Nat → List Int → List (S131) → Int → Int → Option ((List (S131)) × Int × Int)
 | 0, _, _, _, _ => none
 | k + 1, x0, x4, x5, x6 => (spec_l02Next.f k x0 x5 x6 ((x4.length : Int) == 300)).bind fun bt1419 => (if bt1419.2.2.2.1 = 0 then (if bt1419.2.2.2.2.2 = true then (if bt1419.2.2.1 < (x0.length : Int) then (some ((([] : List (S131))), 7, bt1419.2.2.1)) else (some (x4, 0, 0))) else (if x4.length < 4398046511104 then ((spec_l02Kind.f bt1419.1).bind fun t1435 => (spec_ReadSegs.l0 k x0 (x4 ++ [(⟨bt1419.1, bt1419.2.1⟩ : S131)]) bt1419.2.2.1 t1435)) else (none))) else (some ((([] : List (S131))), bt1419.2.2.2.1, bt1419.2.2.2.2.1)))
end
def spec_ReadSegs.f (k : Nat) (l0 : List Int) : Option ((List (S131)) × Int × Int) := (some (([] : List (S131)) : List (S131))).bind fun y1414 => (if (l0.length : Int) > 60000 then (some (y1414, 1, 0)) else (if (l0.length : Int) < 2 then (spec_ReadSegs.j0 k l0 y1414 true) else (if 0 < (l0.length : Int) then (if (rd l0 0) = 84 then (if 1 < (l0.length : Int) then (spec_ReadSegs.j0 k l0 y1414 ((rd l0 1) != 83)) else (none)) else (spec_ReadSegs.j0 k l0 y1414 true)) else (none))))
set_option maxHeartbeats 8000000 in
set_option maxRecDepth 100000 in
theorem spec_ReadSegs.calls (k : Nat) (A0 : Option Addr) (c0 : Nat) (l0 : List Int) (r1 : List (S131)) (r2 : Int) (r3 : Int) (w : World) (hr0 : Kd.C (Kd.int .u8) w A0 l0.length l0) (hc0 : l0.length ≤ c0) (h : spec_ReadSegs.f k l0 = some (r1, r2, r3)) :
  Calls Try.prog 75 #[.slice A0 l0.length c0] w fun e w' => ∃ v0_ : Value, e = .returned (.tuple #[v0_, .agg #[.int .i64 r2, .int .i64 r3]]) ∧ Kd.S k131 131 w' w.heap.size (fun _ => True) v0_ r1 ∧ Below w.heap.size w w' := by
 have hu65 := Try.underlying65
 have hu131 := Try.underlying131
 have HR0 := zA hr0
 have HC0 := zA hc0
 clear hr0 hc0
 have HB := zA (Below.refl w.heap.size w)
 have H : ((some (([] : List (S131)) : List (S131))).bind fun y1414 => (if (l0.length : Int) > 60000 then (some (y1414, 1, 0)) else (if (l0.length : Int) < 2 then (spec_ReadSegs.j0 k l0 y1414 true) else (if 0 < (l0.length : Int) then (if (rd l0 0) = 84 then (if 1 < (l0.length : Int) then (spec_ReadSegs.j0 k l0 y1414 ((rd l0 1) != 83)) else (none)) else (spec_ReadSegs.j0 k l0 y1414 true)) else (none))))) = some (r1, r2, r3) := h
 clear h
 obtain ⟨y1414, hy1414⟩ : ∃ y_ : List (S131), y_ = (([] : List (S131))) := ⟨_, rfl⟩
 replace H : (if (l0.length : Int) > 60000 then (some (y1414, 1, 0)) else (if (l0.length : Int) < 2 then (spec_ReadSegs.j0 k l0 y1414 true) else (if 0 < (l0.length : Int) then (if (rd l0 0) = 84 then (if 1 < (l0.length : Int) then (spec_ReadSegs.j0 k l0 y1414 ((rd l0 1) != 83)) else (none)) else (spec_ReadSegs.j0 k l0 y1414 true)) else (none)))) = some (r1, r2, r3) := by first | (rw [hy1414]; with_reducible exact H) | (have H2_ := (zS _ _).symm.trans H; rw [hy1414]; with_reducible exact H2_) | (have H2_ := (zS _ _).symm.trans H; with_reducible exact H2_) | with_reducible exact H | (rw [hy1414]; exact H) | exact H
 have Ny1414 := zA hy1414
 clear hy1414
 by_cases c2 : (l0.length : Int) > 60000
 ·rw [if_pos c2] at H
  have c2b0 : decide (60000 < (l0.length : Int)) = true := zT c2
  have c2b1 : decide (60000 < l0.length) = true := zT (by omega)
  clear c2
  simp only [Option.some.injEq, Prod.mk.injEq] at H
  obtain ⟨rfl, rfl, rfl⟩ := H
  go_enter Try.func75, Try.ntmps75
  go_wp2_with (first | ((with_reducible refine gate_dst (N := 3) rfl ?_); refine box_event ?hg (N := 3) ?hd (cs := #[.int .i64 0, .int .i64 0]) (t := 65) ?hr ?_; (case hd => rfl); (case hg => rfl); (case hr => first | (go_simp; done) | (go_simp; rfl)); intro gb1413 hg w3 hbox hb; have n0_ := zA (below_step (by repeat (first | (with_reducible first | exact HB.out | apply zC | apply zB | apply zF) | exact HB.out)) hb); have n1_ := zA (hbox); have n2_ := zA ((by rw [hg]; exact (zL (by repeat (first | (with_reducible first | exact HB.out | apply zC | apply zB | apply zF) | exact HB.out))) : w.heap.size ≤ gb1413)); have n3_ := zA ((by rw [hg]; exact (zL (by repeat (first | (with_reducible first | exact HB.out | apply zC | apply zB | apply zF) | exact HB.out))) : w.heap.size ≤ gb1413)); clear HB; have HB := n0_; have BK1413 := n1_; have GW1413 := n2_; have GE1413 := n3_; clear n0_ n1_ n2_ n3_; clear hb hbox hg) | ((with_reducible refine gate_dst (N := 11) rfl ?_); refine Kd.S_lit k131 _ 131 ?hg (N := 11) ?hd (xs := ([] : List (S131))) (inner := []) (ok := fun _ => True) (okp := fun _ => True) ?hr ?hp (fun _ hk => hk) trivial (Below.refl _ _) (Nat.le_refl _) (by simp) ?_; (case hd => rfl); (case hg => rfl); (case hr => first | (go_simp; done) | (go_simp; rfl)); (case hp => exact (Reps.none _ _)); intro v1415 w4 ho5 hb hg_ hnew_; clear hg_ hnew_; (first | rw [← Ny1414.out] at ho5 | (simp only [Int.reduceToNat] at ho5; rw [← Ny1414.out] at ho5)); have n0_ := zA (Kd.S_lower ho5 (zL (by repeat (first | (with_reducible first | exact HB.out | apply zC | apply zB | apply zF | refine zE ?_ GE1413.out) | exact HB.out)))); have n1_ := zA (blk_below (g := gb1413) (o := .cells #[.int .i64 0, .int .i64 0] 65 (0, 0)) (by (with_reducible repeat (first | refine zG ?_ _ | refine zH ?_ | refine zD ?_ _)); exact BK1413.out) hb); have n2_ := zA (below_step (by repeat (first | (with_reducible first | exact HB.out | apply zC | apply zB | apply zF | refine zE ?_ GE1413.out) | exact HB.out)) hb); clear BK1413; clear HB; have HO1416 := n0_; have BK1413 := n1_; have HB := n2_; clear n0_ n1_ n2_; clear hb ho5; have hcz6_0 : w4.cell? ⟨gb1413, 0, none⟩ = some (.int .i64 0) := (zK BK1413.out 0).trans rfl; have hcz6_1 : w4.cell? ⟨gb1413, 1, none⟩ = some (.int .i64 0) := (zK BK1413.out 1).trans rfl; have hfz6_0 := zJ BK1413.out 0; have hfz6_1 := zJ BK1413.out 1))
  refine bodyPost_ret (results_tc rfl _ _ gb1413 65 #[.int .i64 1, .int .i64 0] (0, 0) _ rfl (by (with_reducible repeat (first | refine zG ?_ _ | refine zH ?_ | refine zD ?_ _)); refine blk_put (cs := #[.int .i64 1, .int .i64 0]) ?_ 1 _ rfl; (with_reducible repeat (first | refine zG ?_ _ | refine zH ?_ | refine zD ?_ _)); refine blk_put (cs := #[.int .i64 0, .int .i64 0]) ?_ 0 _ rfl; (with_reducible repeat (first | refine zG ?_ _ | refine zH ?_ | refine zD ?_ _)); exact BK1413.out) Try.underlying65 rfl (by kernel_rfl)) rfl ?_
  exact ⟨_, by first | rfl | (simp [errW_none, errW_some] <;> rfl) | (simp [*, errW_none, errW_some] <;> rfl), by (with_reducible repeat (first | apply yE | apply yF | apply yG)); exact yH (yI (p := ⟨gb1413, 1, none⟩) (yI (p := ⟨gb1413, 0, none⟩) (Kd.S_types HO1416.out BK1413.out (by decide)) (fun _ hk => hk.2) (.int .i64 1)) (fun _ hk => hk.2) (.int .i64 0)) (fun _ hk => trivial), by repeat (first | (with_reducible first | exact HB.out | apply zC | apply zB | apply zF | refine zE ?_ GE1413.out) | exact HB.out)⟩
 ·rw [if_neg c2] at H
  have c2b0 : decide (60000 < (l0.length : Int)) = false := decide_eq_false c2
  have c2b1 : decide (60000 < l0.length) = false := decide_eq_false (by omega)
  clear c2
  have HC7 := zA H
  clear H
  go_enter Try.func75, Try.ntmps75
  go_upto_region 4 with (first | ((with_reducible refine gate_dst (N := 3) rfl ?_); refine box_event ?hg (N := 3) ?hd (cs := #[.int .i64 0, .int .i64 0]) (t := 65) ?hr ?_; (case hd => rfl); (case hg => rfl); (case hr => first | (go_simp; done) | (go_simp; rfl)); intro gb1413 hg w8 hbox hb; have n0_ := zA (below_step (by repeat (first | (with_reducible first | exact HB.out | apply zC | apply zB | apply zF) | exact HB.out)) hb); have n1_ := zA (hbox); have n2_ := zA ((by rw [hg]; exact (zL (by repeat (first | (with_reducible first | exact HB.out | apply zC | apply zB | apply zF) | exact HB.out))) : w.heap.size ≤ gb1413)); have n3_ := zA ((by rw [hg]; exact (zL (by repeat (first | (with_reducible first | exact HB.out | apply zC | apply zB | apply zF) | exact HB.out))) : w.heap.size ≤ gb1413)); clear HB; have HB := n0_; have BK1413 := n1_; have GW1413 := n2_; have GE1413 := n3_; clear n0_ n1_ n2_ n3_; clear hb hbox hg) | ((with_reducible refine gate_dst (N := 11) rfl ?_); refine Kd.S_lit k131 _ 131 ?hg (N := 11) ?hd (xs := ([] : List (S131))) (inner := []) (ok := fun _ => True) (okp := fun _ => True) ?hr ?hp (fun _ hk => hk) trivial (Below.refl _ _) (Nat.le_refl _) (by simp) ?_; (case hd => rfl); (case hg => rfl); (case hr => first | (go_simp; done) | (go_simp; rfl)); (case hp => exact (Reps.none _ _)); intro v1415 w9 ho10 hb hg_ hnew_; clear hg_ hnew_; (first | rw [← Ny1414.out] at ho10 | (simp only [Int.reduceToNat] at ho10; rw [← Ny1414.out] at ho10)); have n0_ := zA (Kd.S_lower ho10 (zL (by repeat (first | (with_reducible first | exact HB.out | apply zC | apply zB | apply zF | refine zE ?_ GE1413.out) | exact HB.out)))); have n1_ := zA (blk_below (g := gb1413) (o := .cells #[.int .i64 0, .int .i64 0] 65 (0, 0)) (by (with_reducible repeat (first | refine zG ?_ _ | refine zH ?_ | refine zD ?_ _)); exact BK1413.out) hb); have n2_ := zA (below_step (by repeat (first | (with_reducible first | exact HB.out | apply zC | apply zB | apply zF | refine zE ?_ GE1413.out) | exact HB.out)) hb); clear BK1413; clear HB; have HO1416 := n0_; have BK1413 := n1_; have HB := n2_; clear n0_ n1_ n2_; clear hb ho10))
  (try simp only [Act.put, List.setIfInBounds_toArray, List.set_cons_zero, List.set_cons_succ])
  go_cut [31] (fun v31 wc => ∃ (kq : Nat) (x31_6 : Bool), v31 = .bool x31_6 ∧ Aside0 (spec_ReadSegs.j0 kq l0 y1414 x31_6 = some (r1, r2, r3)) ∧ Aside0 (kq ≤ k) ∧ Aside0 (Kd.S k131 131 wc w.heap.size (fun _ => True) v1415 y1414) ∧ Aside0 (wc.heap[gb1413]? = some (.cells #[.int .i64 0, .int .i64 0] 65 (0, 0))) ∧ Aside0 (Below w.heap.size w wc))
  case first =>
   have H := HC7.out
   clear HC7
   by_cases c11 : (l0.length : Int) < 2
   ·rw [if_pos c11] at H
    have c11b0 : decide ((l0.length : Int) < 2) = true := zT c11
    have c11b1 : decide (l0.length < 2) = true := zT (by omega)
    clear c11
    (first | rw [c11b0] | (simp only [i64_w, i32_w]; rw [c11b0]) | skip)
    have H' := zA H
    clear H
    go_wp2
    go_meet
    case rel => exact ⟨_, (true), (by first | rfl | (simp; done) | (simp [*]; done)), H', ⟨by first | omega | exact Nat.le_refl _⟩, ⟨by (with_reducible repeat (first | apply yE | apply yF | apply yG)); exact HO1416.out⟩, ⟨by (with_reducible repeat (first | refine zG ?_ _ | refine zH ?_ | refine zD ?_ _)); exact BK1413.out⟩, ⟨by repeat (first | (with_reducible first | exact HB.out | apply zC | apply zB | apply zF | refine zE ?_ GE1413.out) | exact HB.out)⟩⟩
   ·rw [if_neg c11] at H
    have c11b0 : decide ((l0.length : Int) < 2) = false := decide_eq_false c11
    have c11b1 : decide (l0.length < 2) = false := decide_eq_false (by omega)
    clear c11
    (first | rw [c11b0] | (simp only [i64_w, i32_w]; rw [c11b0]) | skip)
    by_cases c12 : 0 < (l0.length : Int)
    ·rw [if_pos c12] at H
     have c12b0 : decide (0 < (l0.length : Int)) = true := zT c12
     have c12b1 : decide (0 < l0.length) = true := zT (by omega)
     clear c12
     by_cases c13 : (rd l0 0) = 84
     ·rw [if_pos c13] at H
      have c13b0 : ((rd l0 0) == 84) = true := beq_iff_eq.mpr c13
      have c13b1 : ((rd l0 0) != 84) = false := bne_eq_false_iff_eq.mpr c13
      clear c13
      by_cases c14 : 1 < (l0.length : Int)
      ·rw [if_pos c14] at H
       have c14b0 : decide (1 < (l0.length : Int)) = true := zT c14
       have c14b1 : decide (1 < l0.length) = true := zT (by omega)
       clear c14
       have H' := zA H
       clear H
       have p1417 : 0 ≤ (0 : Int) := (by omega)
       have q1417 : 0 < (l0.length : Int) := zI (by first | (with_reducible assumption) | assumption)
       obtain ⟨ad1417, e1417, hx1417_0⟩ := Kd.at_int HR0.out 0 p1417 q1417
       cases e1417
       have qi1417 : (0 < l0.length) = True := eq_true (by omega)
       (try rw [show ((0 : Int)).toNat = 0 from rfl] at hx1417_0)
       (try rw [Addr.add_zero'] at hx1417_0)
       replace hx1417_0 := (HB.out.cell (World.block_lt_of_cell? w _ hx1417_0)).trans hx1417_0
       replace p1417 := eq_true p1417
       replace q1417 := eq_true q1417
       have p1418 : 0 ≤ (1 : Int) := (by omega)
       have q1418 : 1 < (l0.length : Int) := zI (by first | (with_reducible assumption) | assumption)
       obtain ⟨ad1418, e1418, hx1418_0⟩ := Kd.at_int HR0.out 1 p1418 q1418
       obtain rfl : ad1417 = ad1418 := (by injection e1418)
       (try simp only [show (1 : Int).toNat = 1 from rfl, Nat.reduceMul, Nat.reduceEqDiff, Go.Addr.add, ↓reduceIte] at hx1418_0)
       have qi1418 : (1 < l0.length) = True := eq_true (by omega)
       (try rw [show ((1 : Int)).toNat = 1 from rfl] at hx1418_0)
       replace hx1418_0 := (HB.out.cell (World.block_lt_of_cell? w _ hx1418_0)).trans hx1418_0
       replace p1418 := eq_true p1418
       replace q1418 := eq_true q1418
       go_wp2
       go_meet
       case rel => exact ⟨_, (((rd l0 1) != 83)), (by first | rfl | (simp; done) | (simp [*]; done)), H', ⟨by first | omega | exact Nat.le_refl _⟩, ⟨by (with_reducible repeat (first | apply yE | apply yF | apply yG)); exact HO1416.out⟩, ⟨by (with_reducible repeat (first | refine zG ?_ _ | refine zH ?_ | refine zD ?_ _)); exact BK1413.out⟩, ⟨by repeat (first | (with_reducible first | exact HB.out | apply zC | apply zB | apply zF | refine zE ?_ GE1413.out) | exact HB.out)⟩⟩
      ·rw [if_neg c14] at H
       exact absurd H (by simp)
     ·rw [if_neg c13] at H
      have c13b0 : ((rd l0 0) == 84) = false := beq_eq_false_iff_ne.mpr c13
      have c13b1 : ((rd l0 0) != 84) = true := bne_iff_ne.mpr c13
      have H' := zA H
      clear H
      have p1417 : 0 ≤ (0 : Int) := (by omega)
      have q1417 : 0 < (l0.length : Int) := zI (by first | (with_reducible assumption) | assumption)
      obtain ⟨ad1417, e1417, hx1417_0⟩ := Kd.at_int HR0.out 0 p1417 q1417
      cases e1417
      have qi1417 : (0 < l0.length) = True := eq_true (by omega)
      (try rw [show ((0 : Int)).toNat = 0 from rfl] at hx1417_0)
      (try rw [Addr.add_zero'] at hx1417_0)
      replace hx1417_0 := (HB.out.cell (World.block_lt_of_cell? w _ hx1417_0)).trans hx1417_0
      replace p1417 := eq_true p1417
      replace q1417 := eq_true q1417
      go_wp2
      go_meet
      case rel => exact ⟨_, (true), (by first | rfl | (simp; done) | (simp [*]; done)), H', ⟨by first | omega | exact Nat.le_refl _⟩, ⟨by (with_reducible repeat (first | apply yE | apply yF | apply yG)); exact HO1416.out⟩, ⟨by (with_reducible repeat (first | refine zG ?_ _ | refine zH ?_ | refine zD ?_ _)); exact BK1413.out⟩, ⟨by repeat (first | (with_reducible first | exact HB.out | apply zC | apply zB | apply zF | refine zE ?_ GE1413.out) | exact HB.out)⟩⟩
    ·rw [if_neg c12] at H
     exact absurd H (by simp)
  case rest =>
   clear HC7
   try clear c1
   try clear p1
   try clear q1
   try clear hx1
   try clear qi1
   try clear c2
   try clear c2b0
   try clear c2b1
   try clear p2
   try clear c7
   try clear c11
   try clear c11b0
   try clear c11b1
   try clear c12
   try clear c12b0
   try clear c12b1
   try clear c13
   try clear c13b0
   try clear c13b1
   try clear c14
   try clear c14b0
   try clear c14b1
   try clear p14
   try clear q14
   try clear hx14
   try clear qi14
   try clear hcz6_0
   try clear hcz6_1
   try clear hfz6_0
   try clear hfz6_1
   try clear hx1417_0
   try clear hx1418_0
   try clear p1417
   try clear p1418
   try clear q1417
   try clear q1418
   obtain ⟨kq, x31_6, rfl, HA, HJ6, HO_4, BK1413, HB⟩ := hcut
   cases kq with
   | zero => exact absurd HA.out (by simp [spec_ReadSegs.j0])
   | succ kj6 =>
    have H := HA.out
    clear HA
    simp only [spec_ReadSegs.j0] at H
    by_cases c15 : x31_6 = true
    ·subst c15
     have H1 : (some (y1414, 2, 0)) = some (r1, r2, r3) := by rw [if_pos rfl] at H; exact H
     clear H
     have H := H1
     clear H1
     simp only [Option.some.injEq, Prod.mk.injEq] at H
     obtain ⟨rfl, rfl, rfl⟩ := H
     have hcz16_0 : wc.cell? ⟨gb1413, 0, none⟩ = some (.int .i64 0) := (zK BK1413.out 0).trans rfl
     have hcz16_1 : wc.cell? ⟨gb1413, 1, none⟩ = some (.int .i64 0) := (zK BK1413.out 1).trans rfl
     have hfz16_0 := zJ BK1413.out 0
     have hfz16_1 := zJ BK1413.out 1
     go_wp2
     refine bodyPost_ret (results_tc rfl _ _ gb1413 65 #[.int .i64 2, .int .i64 0] (0, 0) _ rfl (by (with_reducible repeat (first | refine zG ?_ _ | refine zH ?_ | refine zD ?_ _)); refine blk_put (cs := #[.int .i64 2, .int .i64 0]) ?_ 1 _ rfl; (with_reducible repeat (first | refine zG ?_ _ | refine zH ?_ | refine zD ?_ _)); refine blk_put (cs := #[.int .i64 0, .int .i64 0]) ?_ 0 _ rfl; (with_reducible repeat (first | refine zG ?_ _ | refine zH ?_ | refine zD ?_ _)); exact BK1413.out) Try.underlying65 rfl (by kernel_rfl)) rfl ?_
     exact ⟨_, by first | rfl | (simp [errW_none, errW_some] <;> rfl) | (simp [*, errW_none, errW_some] <;> rfl), by (with_reducible repeat (first | apply yE | apply yF | apply yG)); exact yH (yI (p := ⟨gb1413, 1, none⟩) (yI (p := ⟨gb1413, 0, none⟩) (Kd.S_types HO_4.out BK1413.out (by decide)) (fun _ hk => hk.2) (.int .i64 2)) (fun _ hk => hk.2) (.int .i64 0)) (fun _ hk => trivial), by repeat (first | (with_reducible first | exact HB.out | apply zC | apply zB | apply zF | refine zE ?_ GE1413.out) | exact HB.out)⟩
    ·replace c15 := Bool.eq_false_iff.mpr c15
     subst c15
     have H1 : (spec_ReadSegs.l0 kj6 l0 y1414 2 0) = some (r1, r2, r3) := by rw [if_neg (show ¬ (false = true) by decide)] at H; exact H
     clear H
     have H := H1
     clear H1
     have H' := zA H
     clear H
     go_wp2
     go_loopg [4, 5, 6] kj6 (fun kq v4 v5 v6 w' => ∃ (x4_2 : List (S131)) (x5_2 : Int) (x6_2 : Int) (x1414000_2 : Int) (x1414001_2 : Int), v5 = .int .i64 x5_2 ∧ v6 = .int .i64 x6_2 ∧ Aside0 (spec_ReadSegs.l0 kq l0 x4_2 x5_2 x6_2 = some (r1, r2, r3)) ∧ Aside0 (kq ≤ kj6) ∧ Aside0 (Kd.S k131 131 w' w.heap.size (fun _ => True) v4 x4_2) ∧ Aside0 (w'.heap[gb1413]? = some (.cells #[.int .i64 x1414000_2, .int .i64 x1414001_2] 65 (0, 0))) ∧ Aside0 (Below w.heap.size w w'))
     case atStart => exact ⟨(y1414), (2), (0), (0), (0), (by first | rfl | (simp; done) | (simp [*]; done)), (by first | rfl | (simp; done) | (simp [*]; done)), H', ⟨Nat.le_refl _⟩, ⟨by (with_reducible repeat (first | apply yE | apply yF | apply yG)); exact HO_4.out⟩, ⟨by (with_reducible repeat (first | refine zG ?_ _ | refine zH ?_ | refine zD ?_ _)); exact BK1413.out⟩, ⟨by repeat (first | (with_reducible first | exact HB.out | apply zC | apply zB | apply zF | refine zE ?_ GE1413.out) | exact HB.out)⟩⟩
     case round =>
      clear H'
      try clear c1
      try clear p1
      try clear q1
      try clear hx1
      try clear qi1
      try clear c2
      try clear c2b0
      try clear c2b1
      try clear p2
      try clear c7
      try clear c11
      try clear c11b0
      try clear c11b1
      try clear c12
      try clear c12b0
      try clear c12b1
      try clear c13
      try clear c13b0
      try clear c13b1
      try clear c14
      try clear c14b0
      try clear c14b1
      try clear p14
      try clear q14
      try clear hx14
      try clear qi14
      try clear c15
      try clear hcz16_0
      try clear hcz16_1
      try clear hcz6_0
      try clear hcz6_1
      try clear hfz16_0
      try clear hfz16_1
      try clear hfz6_0
      try clear hfz6_1
      try clear hx1417_0
      try clear hx1418_0
      try clear p1
      try clear p14
      try clear p1417
      try clear p1418
      try clear p2
      try clear q1
      try clear q14
      try clear q1417
      try clear q1418
      obtain ⟨x4_2, x5_2, x6_2, x1414000_2, x1414001_2, rfl, rfl, HA, HK2, HO_4, BK1413, HB⟩ := hrel
      cases gk with
      | zero => exact absurd HA.out (by simp [spec_ReadSegs.l0])
      | succ k2 =>
       have H := HA.out
       clear HA
       simp only [spec_ReadSegs.l0] at H
       replace H := Option.bind_eq_some_iff.mp H
       obtain ⟨⟨t1419, t1420, t1423, t1424, t1425, t1426⟩, A170, H⟩ := H
       replace H : (if t1424 = 0 then (if t1426 = true then (if t1423 < (l0.length : Int) then (some ((([] : List (S131))), 7, t1423)) else (some (x4_2, 0, 0))) else (if x4_2.length < 4398046511104 then ((spec_l02Kind.f t1419).bind fun t1435 => (spec_ReadSegs.l0 k2 l0 (x4_2 ++ [(⟨t1419, t1420⟩ : S131)]) t1423 t1435)) else (none))) else (some ((([] : List (S131))), t1424, t1425))) = some (r1, r2, r3) := H
       have A17 := zA A170
       clear A170
       by_cases c18 : t1424 = 0
       ·rw [if_pos c18] at H
        have c18b0 : (t1424 == 0) = true := beq_iff_eq.mpr c18
        have c18b1 : (t1424 != 0) = false := bne_eq_false_iff_eq.mpr c18
        clear c18
        by_cases c19 : t1426 = true
        ·subst c19
         have H1 : (if t1423 < (l0.length : Int) then (some ((([] : List (S131))), 7, t1423)) else (some (x4_2, 0, 0))) = some (r1, r2, r3) := by rw [if_pos rfl] at H; exact H
         clear H
         have H := H1
         clear H1
         by_cases c20 : t1423 < (l0.length : Int)
         ·rw [if_pos c20] at H
          have c20b0 : decide (t1423 < (l0.length : Int)) = true := zT c20
          clear c20
          obtain ⟨y1429, hy1429⟩ : ∃ y_ : List (S131), y_ = (([] : List (S131))) := ⟨_, rfl⟩
          replace H : (some (y1429, 7, t1423)) = some (r1, r2, r3) := by first | (rw [hy1429]; with_reducible exact H) | (have H2_ := (zS _ _).symm.trans H; rw [hy1429]; with_reducible exact H2_) | (have H2_ := (zS _ _).symm.trans H; with_reducible exact H2_) | with_reducible exact H | (rw [hy1429]; exact H) | exact H
          have Ny1429 := zA hy1429
          clear hy1429
          simp only [Option.some.injEq, Prod.mk.injEq] at H
          obtain ⟨rfl, rfl, rfl⟩ := H
          obtain ⟨Ao21, co21, eo21⟩ := Kd.S_slice HO_4.out
          subst eo21
          go_wp2_with (first | ((with_reducible refine gate_callee (f := 131) rfl ?_); refine goesL_ (some 41) rfl rfl Try.func131 (by kernel_rfl) rfl #[.slice A0 l0.length c0, .int .i64 x5_2, .int .i64 x6_2, .bool ((x4_2.length : Int) == 300)] rfl (by (try simp only [zU, zV, zW]); first | done | rfl | (simp only [zR, zQ]; rfl)) ?_; (with_reducible refine (spec_l02Next.calls k2 _ _ l0 x5_2 x6_2 ((x4_2.length : Int) == 300) t1419 t1420 t1423 t1424 t1425 true _ ?side1 ?side2 A17.out).mono ?_); (case side1 => repeat (first | exact (Kd.C_below HR0.out HB.out) | (with_reducible refine yN ?_ _) | (with_reducible refine yL ?_ _) | (with_reducible refine yM ?_))); (case side2 => exact HC0.out); rintro e w22 ⟨v1421, rfl, ho0, hb⟩; refine ⟨_, rfl, ?_⟩; have n0_ := zA (Kd.S_elder' (by (with_reducible repeat (first | apply yE | apply yF | apply yG)); exact HO_4.out) (Kd.R_base ho0) hb); have n1_ := zA (Kd.R_lower ho0 (zL (by repeat (first | (with_reducible first | exact HB.out | apply zC | apply zB | apply zF | refine zE ?_ GE1413.out) | exact HB.out)))); have n2_ := zA (blk_below (g := gb1413) (o := .cells #[.int .i64 x1414000_2, .int .i64 x1414001_2] 65 (0, 0)) (by (with_reducible repeat (first | refine zG ?_ _ | refine zH ?_ | refine zD ?_ _)); exact BK1413.out) hb); have n3_ := zA (below_step (by repeat (first | (with_reducible first | exact HB.out | apply zC | apply zB | apply zF | refine zE ?_ GE1413.out) | exact HB.out)) hb); clear HO_4; clear BK1413; clear HB; have HO_4 := n0_; have HO1422 := n1_; have BK1413 := n2_; have HB := n3_; clear n0_ n1_ n2_ n3_; (try clear hb); (try clear hb2); (try clear hk); (try clear hi); (try clear ho0)) | ((with_reducible refine gate_dst (N := 7) rfl ?_); refine box_event ?hg (N := 7) ?hd (cs := #[.int .i64 0, .slice none 0 0]) (t := 131) ?hr ?_; (case hd => rfl); (case hg => rfl); (case hr => first | (go_simp; done) | (go_simp; rfl)); intro gb1427 hg w23 hbox hb; have n0_ := zA (Kd.S_below (Kd.S_elderB (by (with_reducible repeat (first | apply yE | apply yF | apply yG)); exact HO_4.out) gb1427 (Nat.le_of_eq hg.symm)) hb); have n1_ := zA (Kd.R_below (by (with_reducible repeat (first | apply zN | apply zM | apply zO)); exact HO1422.out) hb); have n2_ := zA (blk_below (g := gb1413) (o := .cells #[.int .i64 x1414000_2, .int .i64 x1414001_2] 65 (0, 0)) (by (with_reducible repeat (first | refine zG ?_ _ | refine zH ?_ | refine zD ?_ _)); exact BK1413.out) hb); have n3_ := zA (below_step (by repeat (first | (with_reducible first | exact HB.out | apply zC | apply zB | apply zF | refine zE ?_ GE1413.out) | exact HB.out)) hb); have n4_ := zA (hbox); have n5_ := zA ((by rw [hg]; exact (zL (by repeat (first | (with_reducible first | exact HB.out | apply zC | apply zB | apply zF | refine zE ?_ GE1413.out) | exact HB.out))) : w.heap.size ≤ gb1427)); have n6_ := zA ((by rw [hg]; exact (zL (by repeat (first | (with_reducible first | exact HB.out | apply zC | apply zB | apply zF | refine zE ?_ GE1413.out) | exact HB.out))) : w.heap.size ≤ gb1427)); have n7_ := zA ((by rw [hg]; exact Nat.ne_of_lt (blk_lt (g := gb1413) (o := .cells #[.int .i64 x1414000_2, .int .i64 x1414001_2] 65 (0, 0)) (by (with_reducible repeat (first | refine zG ?_ _ | refine zH ?_ | refine zD ?_ _)); exact BK1413.out)) : gb1413 ≠ gb1427)); have n8_ := zA ((by rw [hg]; exact Nat.ne_of_gt (blk_lt (g := gb1413) (o := .cells #[.int .i64 x1414000_2, .int .i64 x1414001_2] 65 (0, 0)) (by (with_reducible repeat (first | refine zG ?_ _ | refine zH ?_ | refine zD ?_ _)); exact BK1413.out)) : gb1427 ≠ gb1413)); clear HO_4; clear HO1422; clear BK1413; clear HB; have HO_4 := n0_; have HO1422 := n1_; have BK1413 := n2_; have HB := n3_; have BK1427 := n4_; have GW1427 := n5_; have GE1427 := n6_; have NB1413_1427 := n7_; have NB1427_1413 := n8_; clear n0_ n1_ n2_ n3_ n4_ n5_ n6_ n7_ n8_; clear hb hbox hg) | ((with_reducible refine gate_dst (N := 9) rfl ?_); refine box_event ?hg (N := 9) ?hd (cs := #[.int .i64 0, .int .i64 0]) (t := 65) ?hr ?_; (case hd => rfl); (case hg => rfl); (case hr => first | (go_simp; done) | (go_simp; rfl)); intro gb1428 hg w24 hbox hb; have n0_ := zA (Kd.S_below (by (with_reducible repeat (first | apply yE | apply yF | apply yG)); exact HO_4.out) hb); have n1_ := zA (Kd.R_below (by (with_reducible repeat (first | apply zN | apply zM | apply zO)); exact HO1422.out) hb); have n2_ := zA (blk_below (g := gb1413) (o := .cells #[.int .i64 x1414000_2, .int .i64 x1414001_2] 65 (0, 0)) (by (with_reducible repeat (first | refine zG ?_ _ | refine zH ?_ | refine zD ?_ _)); exact BK1413.out) hb); have n3_ := zA (blk_below (g := gb1427) (o := .cells #[.int .i64 0, .slice none 0 0] 131 (0, 0)) (by (with_reducible repeat (first | refine zG ?_ _ | refine zH ?_ | refine zD ?_ _)); exact BK1427.out) hb); have n4_ := zA (below_step (by repeat (first | (with_reducible first | exact HB.out | apply zC | apply zB | apply zF | refine zE ?_ GE1413.out | refine zE ?_ GE1427.out) | exact HB.out)) hb); have n5_ := zA (hbox); have n6_ := zA ((by rw [hg]; exact (zL (by repeat (first | (with_reducible first | exact HB.out | apply zC | apply zB | apply zF | refine zE ?_ GE1413.out | refine zE ?_ GE1427.out) | exact HB.out))) : w.heap.size ≤ gb1428)); have n7_ := zA ((by rw [hg]; exact (zL (by repeat (first | (with_reducible first | exact HB.out | apply zC | apply zB | apply zF | refine zE ?_ GE1413.out | refine zE ?_ GE1427.out) | exact HB.out))) : w.heap.size ≤ gb1428)); have n8_ := zA ((by rw [hg]; exact Nat.ne_of_lt (blk_lt (g := gb1413) (o := .cells #[.int .i64 x1414000_2, .int .i64 x1414001_2] 65 (0, 0)) (by (with_reducible repeat (first | refine zG ?_ _ | refine zH ?_ | refine zD ?_ _)); exact BK1413.out)) : gb1413 ≠ gb1428)); have n9_ := zA ((by rw [hg]; exact Nat.ne_of_gt (blk_lt (g := gb1413) (o := .cells #[.int .i64 x1414000_2, .int .i64 x1414001_2] 65 (0, 0)) (by (with_reducible repeat (first | refine zG ?_ _ | refine zH ?_ | refine zD ?_ _)); exact BK1413.out)) : gb1428 ≠ gb1413)); have n10_ := zA ((by rw [hg]; exact Nat.ne_of_lt (blk_lt (g := gb1427) (o := .cells #[.int .i64 0, .slice none 0 0] 131 (0, 0)) (by (with_reducible repeat (first | refine zG ?_ _ | refine zH ?_ | refine zD ?_ _)); exact BK1427.out)) : gb1427 ≠ gb1428)); have n11_ := zA ((by rw [hg]; exact Nat.ne_of_gt (blk_lt (g := gb1427) (o := .cells #[.int .i64 0, .slice none 0 0] 131 (0, 0)) (by (with_reducible repeat (first | refine zG ?_ _ | refine zH ?_ | refine zD ?_ _)); exact BK1427.out)) : gb1428 ≠ gb1427)); clear HO_4; clear HO1422; clear BK1413; clear BK1427; clear HB; have HO_4 := n0_; have HO1422 := n1_; have BK1413 := n2_; have BK1427 := n3_; have HB := n4_; have BK1428 := n5_; have GW1428 := n6_; have GE1428 := n7_; have NB1413_1428 := n8_; have NB1428_1413 := n9_; have NB1427_1428 := n10_; have NB1428_1427 := n11_; clear n0_ n1_ n2_ n3_ n4_ n5_ n6_ n7_ n8_ n9_ n10_ n11_; clear hb hbox hg; have hnb25 := NB1427_1413.out; have hnc25 := NB1413_1427.out; have hnb26 := NB1427_1428.out; have hnc26 := NB1428_1427.out; have hcz27_0 : w24.cell? ⟨gb1427, 0, none⟩ = some (.int .i64 0) := (zK BK1427.out 0).trans rfl; have hcz27_1 : w24.cell? ⟨gb1427, 1, none⟩ = some (.slice none 0 0) := (zK BK1427.out 1).trans rfl; have hfz27_0 := zJ BK1427.out 0; have hfz27_1 := zJ BK1427.out 1; obtain ⟨Ao28, co28, eo28⟩ := Kd.R_slice HO1422.out; subst eo28; have hnb29 := NB1428_1413.out; have hnc29 := NB1413_1428.out; have hcz30_0 : w24.cell? ⟨gb1428, 0, none⟩ = some (.int .i64 0) := (zK BK1428.out 0).trans rfl; have hcz30_1 : w24.cell? ⟨gb1428, 1, none⟩ = some (.int .i64 0) := (zK BK1428.out 1).trans rfl; have hfz30_0 := zJ BK1428.out 0; have hfz30_1 := zJ BK1428.out 1) | ((with_reducible refine gate_dst (N := 64) rfl ?_); refine Kd.S_lit k131 _ 131 ?hg (N := 64) ?hd (xs := ([] : List (S131))) (inner := []) (ok := fun _ => True) (okp := fun _ => True) ?hr ?hp (fun _ hk => hk) trivial (Below.refl _ _) (Nat.le_refl _) (by simp) ?_; (case hd => rfl); (case hg => rfl); (case hr => first | (go_simp; done) | (go_simp; rfl)); (case hp => exact (Reps.none _ _)); intro v1430 w31 ho32 hb hg_ hnew_; clear hg_ hnew_; (first | rw [← Ny1429.out] at ho32 | (simp only [Int.reduceToNat] at ho32; rw [← Ny1429.out] at ho32)); have n0_ := zA (Kd.S_elder' (by (with_reducible repeat (first | apply yE | apply yF | apply yG)); exact (yH (yH (yI (p := ⟨gb1428, 1, none⟩) (yI (p := ⟨gb1428, 0, none⟩) (yI (p := ⟨gb1427, 1, none⟩) (yI (p := ⟨gb1427, 0, none⟩) (Kd.S_types (yH HO_4.out (fun k_ hk => (⟨hk, hk.2⟩ : _ ∧ k_ ≠ gb1427))) BK1428.out (by decide)) (fun _ hk => hk.1.2) (.int .i64 t1419)) (fun _ hk => hk.1.2) (.slice Ao28 t1420.length co28)) (fun _ hk => hk.2) (.int .i64 t1424)) (fun _ hk => hk.2) (.int .i64 t1425)) (fun _ h_ => h_.1)) (fun _ h_ => h_.1))) (Kd.S_base ho32) hb); have n1_ := zA (Kd.R_below (by (with_reducible repeat (first | apply zN | apply zM | apply zO)); exact (zP (zP (Kd.R_far (p := ⟨gb1428, 1, none⟩) (Kd.R_far (p := ⟨gb1428, 0, none⟩) (Kd.R_far (p := ⟨gb1427, 1, none⟩) (Kd.R_far (p := ⟨gb1427, 0, none⟩) (zY (zY HO1422.out BK1427.out (by decide)) BK1428.out (by decide)) (fun _ hk => hk.1.2) (.int .i64 t1419)) (fun _ hk => hk.1.2) (.slice Ao28 t1420.length co28)) (fun _ hk => hk.2) (.int .i64 t1424)) (fun _ hk => hk.2) (.int .i64 t1425)) (fun _ h_ => h_.1)) (fun _ h_ => h_.1))) hb); have n2_ := zA (Kd.S_lower (Kd.S_newB (Kd.S_new' (Kd.S_new' ho32 (Kd.S_lt (by (with_reducible repeat (first | apply yE | apply yF | apply yG)); exact (yH (yH (yI (p := ⟨gb1428, 1, none⟩) (yI (p := ⟨gb1428, 0, none⟩) (yI (p := ⟨gb1427, 1, none⟩) (yI (p := ⟨gb1427, 0, none⟩) (Kd.S_types (yH HO_4.out (fun k_ hk => (⟨hk, hk.2⟩ : _ ∧ k_ ≠ gb1427))) BK1428.out (by decide)) (fun _ hk => hk.1.2) (.int .i64 t1419)) (fun _ hk => hk.1.2) (.slice Ao28 t1420.length co28)) (fun _ hk => hk.2) (.int .i64 t1424)) (fun _ hk => hk.2) (.int .i64 t1425)) (fun _ h_ => h_.1)) (fun _ h_ => h_.1))))) (Kd.R_lt (by (with_reducible repeat (first | apply zN | apply zM | apply zO)); exact (zP (zP (Kd.R_far (p := ⟨gb1428, 1, none⟩) (Kd.R_far (p := ⟨gb1428, 0, none⟩) (Kd.R_far (p := ⟨gb1427, 1, none⟩) (Kd.R_far (p := ⟨gb1427, 0, none⟩) (zY (zY HO1422.out BK1427.out (by decide)) BK1428.out (by decide)) (fun _ hk => hk.1.2) (.int .i64 t1419)) (fun _ hk => hk.1.2) (.slice Ao28 t1420.length co28)) (fun _ hk => hk.2) (.int .i64 t1424)) (fun _ hk => hk.2) (.int .i64 t1425)) (fun _ h_ => h_.1)) (fun _ h_ => h_.1))))) (g := gb1427) (o := .cells #[.int .i64 t1419, .slice Ao28 t1420.length co28] 131 (0, 0)) (by (with_reducible repeat (first | refine zG ?_ _ | refine zH ?_ | refine zD ?_ _)); refine blk_far ?_ NB1427_1428.out _; (with_reducible repeat (first | refine zG ?_ _ | refine zH ?_ | refine zD ?_ _)); refine blk_far ?_ NB1427_1428.out _; (with_reducible repeat (first | refine zG ?_ _ | refine zH ?_ | refine zD ?_ _)); refine blk_put (cs := #[.int .i64 t1419, .slice none 0 0]) ?_ 1 _ rfl; (with_reducible repeat (first | refine zG ?_ _ | refine zH ?_ | refine zD ?_ _)); refine blk_put (cs := #[.int .i64 0, .slice none 0 0]) ?_ 0 _ rfl; (with_reducible repeat (first | refine zG ?_ _ | refine zH ?_ | refine zD ?_ _)); exact BK1427.out)) (zL (by repeat (first | (with_reducible first | exact HB.out | apply zC | apply zB | apply zF | refine zE ?_ GE1413.out | refine zE ?_ GE1427.out | refine zE ?_ GE1428.out) | exact HB.out)))); have n3_ := zA (blk_below (g := gb1413) (o := .cells #[.int .i64 x1414000_2, .int .i64 x1414001_2] 65 (0, 0)) (by (with_reducible repeat (first | refine zG ?_ _ | refine zH ?_ | refine zD ?_ _)); refine blk_far ?_ NB1413_1428.out _; (with_reducible repeat (first | refine zG ?_ _ | refine zH ?_ | refine zD ?_ _)); refine blk_far ?_ NB1413_1428.out _; (with_reducible repeat (first | refine zG ?_ _ | refine zH ?_ | refine zD ?_ _)); refine blk_far ?_ NB1413_1427.out _; (with_reducible repeat (first | refine zG ?_ _ | refine zH ?_ | refine zD ?_ _)); refine blk_far ?_ NB1413_1427.out _; (with_reducible repeat (first | refine zG ?_ _ | refine zH ?_ | refine zD ?_ _)); exact BK1413.out) hb); have n4_ := zA (blk_below (g := gb1427) (o := .cells #[.int .i64 t1419, .slice Ao28 t1420.length co28] 131 (0, 0)) (by (with_reducible repeat (first | refine zG ?_ _ | refine zH ?_ | refine zD ?_ _)); refine blk_far ?_ NB1427_1428.out _; (with_reducible repeat (first | refine zG ?_ _ | refine zH ?_ | refine zD ?_ _)); refine blk_far ?_ NB1427_1428.out _; (with_reducible repeat (first | refine zG ?_ _ | refine zH ?_ | refine zD ?_ _)); refine blk_put (cs := #[.int .i64 t1419, .slice none 0 0]) ?_ 1 _ rfl; (with_reducible repeat (first | refine zG ?_ _ | refine zH ?_ | refine zD ?_ _)); refine blk_put (cs := #[.int .i64 0, .slice none 0 0]) ?_ 0 _ rfl; (with_reducible repeat (first | refine zG ?_ _ | refine zH ?_ | refine zD ?_ _)); exact BK1427.out) hb); have n5_ := zA (blk_below (g := gb1428) (o := .cells #[.int .i64 t1424, .int .i64 t1425] 65 (0, 0)) (by (with_reducible repeat (first | refine zG ?_ _ | refine zH ?_ | refine zD ?_ _)); refine blk_put (cs := #[.int .i64 t1424, .int .i64 0]) ?_ 1 _ rfl; (with_reducible repeat (first | refine zG ?_ _ | refine zH ?_ | refine zD ?_ _)); refine blk_put (cs := #[.int .i64 0, .int .i64 0]) ?_ 0 _ rfl; (with_reducible repeat (first | refine zG ?_ _ | refine zH ?_ | refine zD ?_ _)); refine blk_far ?_ NB1428_1427.out _; (with_reducible repeat (first | refine zG ?_ _ | refine zH ?_ | refine zD ?_ _)); refine blk_far ?_ NB1428_1427.out _; (with_reducible repeat (first | refine zG ?_ _ | refine zH ?_ | refine zD ?_ _)); exact BK1428.out) hb); have n6_ := zA (below_step (by repeat (first | (with_reducible first | exact HB.out | apply zC | apply zB | apply zF | refine zE ?_ GE1413.out | refine zE ?_ GE1427.out | refine zE ?_ GE1428.out) | exact HB.out)) hb); clear HO_4; clear HO1422; clear BK1413; clear BK1427; clear BK1428; clear HB; have HO_4 := n0_; have HO1422 := n1_; have HO1431 := n2_; have BK1413 := n3_; have BK1427 := n4_; have BK1428 := n5_; have HB := n6_; clear n0_ n1_ n2_ n3_ n4_ n5_ n6_; clear hb ho32; have hcz33_0 : w31.cell? ⟨gb1413, 0, none⟩ = some (.int .i64 x1414000_2) := (zK BK1413.out 0).trans rfl; have hcz33_1 : w31.cell? ⟨gb1413, 1, none⟩ = some (.int .i64 x1414001_2) := (zK BK1413.out 1).trans rfl; have hfz33_0 := zJ BK1413.out 0; have hfz33_1 := zJ BK1413.out 1))
          refine bodyPost_ret (results_tc rfl _ _ gb1413 65 #[.int .i64 7, .int .i64 t1423] (0, 0) _ rfl (by (with_reducible repeat (first | refine zG ?_ _ | refine zH ?_ | refine zD ?_ _)); refine blk_put (cs := #[.int .i64 7, .int .i64 x1414001_2]) ?_ 1 _ rfl; (with_reducible repeat (first | refine zG ?_ _ | refine zH ?_ | refine zD ?_ _)); refine blk_put (cs := #[.int .i64 x1414000_2, .int .i64 x1414001_2]) ?_ 0 _ rfl; (with_reducible repeat (first | refine zG ?_ _ | refine zH ?_ | refine zD ?_ _)); exact BK1413.out) Try.underlying65 rfl (by kernel_rfl)) rfl ?_
          exact ⟨_, by first | rfl | (simp [errW_none, errW_some] <;> rfl) | (simp [*, errW_none, errW_some] <;> rfl), by (with_reducible repeat (first | apply yE | apply yF | apply yG)); exact yH (yI (p := ⟨gb1413, 1, none⟩) (yI (p := ⟨gb1413, 0, none⟩) (Kd.S_types HO1431.out BK1413.out (by decide)) (fun _ hk => hk.2) (.int .i64 7)) (fun _ hk => hk.2) (.int .i64 t1423)) (fun _ hk => trivial), by repeat (first | (with_reducible first | exact HB.out | apply zC | apply zB | apply zF | refine zE ?_ GE1413.out | refine zE ?_ GE1427.out | refine zE ?_ GE1428.out) | exact HB.out)⟩
         ·rw [if_neg c20] at H
          have c20b0 : decide (t1423 < (l0.length : Int)) = false := decide_eq_false c20
          clear c20
          simp only [Option.some.injEq, Prod.mk.injEq] at H
          obtain ⟨rfl, rfl, rfl⟩ := H
          obtain ⟨Ao34, co34, eo34⟩ := Kd.S_slice HO_4.out
          subst eo34
          go_wp2_with (first | ((with_reducible refine gate_callee (f := 131) rfl ?_); refine goesL_ (some 41) rfl rfl Try.func131 (by kernel_rfl) rfl #[.slice A0 l0.length c0, .int .i64 x5_2, .int .i64 x6_2, .bool ((x4_2.length : Int) == 300)] rfl (by (try simp only [zU, zV, zW]); first | done | rfl | (simp only [zR, zQ]; rfl)) ?_; (with_reducible refine (spec_l02Next.calls k2 _ _ l0 x5_2 x6_2 ((x4_2.length : Int) == 300) t1419 t1420 t1423 t1424 t1425 true _ ?side1 ?side2 A17.out).mono ?_); (case side1 => repeat (first | exact (Kd.C_below HR0.out HB.out) | (with_reducible refine yN ?_ _) | (with_reducible refine yL ?_ _) | (with_reducible refine yM ?_))); (case side2 => exact HC0.out); rintro e w35 ⟨v1421, rfl, ho0, hb⟩; refine ⟨_, rfl, ?_⟩; have n0_ := zA (Kd.S_elder' (by (with_reducible repeat (first | apply yE | apply yF | apply yG)); exact HO_4.out) (Kd.R_base ho0) hb); have n1_ := zA (Kd.R_lower ho0 (zL (by repeat (first | (with_reducible first | exact HB.out | apply zC | apply zB | apply zF | refine zE ?_ GE1413.out) | exact HB.out)))); have n2_ := zA (blk_below (g := gb1413) (o := .cells #[.int .i64 x1414000_2, .int .i64 x1414001_2] 65 (0, 0)) (by (with_reducible repeat (first | refine zG ?_ _ | refine zH ?_ | refine zD ?_ _)); exact BK1413.out) hb); have n3_ := zA (below_step (by repeat (first | (with_reducible first | exact HB.out | apply zC | apply zB | apply zF | refine zE ?_ GE1413.out) | exact HB.out)) hb); clear HO_4; clear BK1413; clear HB; have HO_4 := n0_; have HO1422 := n1_; have BK1413 := n2_; have HB := n3_; clear n0_ n1_ n2_ n3_; (try clear hb); (try clear hb2); (try clear hk); (try clear hi); (try clear ho0)) | ((with_reducible refine gate_dst (N := 7) rfl ?_); refine box_event ?hg (N := 7) ?hd (cs := #[.int .i64 0, .slice none 0 0]) (t := 131) ?hr ?_; (case hd => rfl); (case hg => rfl); (case hr => first | (go_simp; done) | (go_simp; rfl)); intro gb1427 hg w36 hbox hb; have n0_ := zA (Kd.S_below (Kd.S_elderB (by (with_reducible repeat (first | apply yE | apply yF | apply yG)); exact HO_4.out) gb1427 (Nat.le_of_eq hg.symm)) hb); have n1_ := zA (Kd.R_below (by (with_reducible repeat (first | apply zN | apply zM | apply zO)); exact HO1422.out) hb); have n2_ := zA (blk_below (g := gb1413) (o := .cells #[.int .i64 x1414000_2, .int .i64 x1414001_2] 65 (0, 0)) (by (with_reducible repeat (first | refine zG ?_ _ | refine zH ?_ | refine zD ?_ _)); exact BK1413.out) hb); have n3_ := zA (below_step (by repeat (first | (with_reducible first | exact HB.out | apply zC | apply zB | apply zF | refine zE ?_ GE1413.out) | exact HB.out)) hb); have n4_ := zA (hbox); have n5_ := zA ((by rw [hg]; exact (zL (by repeat (first | (with_reducible first | exact HB.out | apply zC | apply zB | apply zF | refine zE ?_ GE1413.out) | exact HB.out))) : w.heap.size ≤ gb1427)); have n6_ := zA ((by rw [hg]; exact (zL (by repeat (first | (with_reducible first | exact HB.out | apply zC | apply zB | apply zF | refine zE ?_ GE1413.out) | exact HB.out))) : w.heap.size ≤ gb1427)); have n7_ := zA ((by rw [hg]; exact Nat.ne_of_lt (blk_lt (g := gb1413) (o := .cells #[.int .i64 x1414000_2, .int .i64 x1414001_2] 65 (0, 0)) (by (with_reducible repeat (first | refine zG ?_ _ | refine zH ?_ | refine zD ?_ _)); exact BK1413.out)) : gb1413 ≠ gb1427)); have n8_ := zA ((by rw [hg]; exact Nat.ne_of_gt (blk_lt (g := gb1413) (o := .cells #[.int .i64 x1414000_2, .int .i64 x1414001_2] 65 (0, 0)) (by (with_reducible repeat (first | refine zG ?_ _ | refine zH ?_ | refine zD ?_ _)); exact BK1413.out)) : gb1427 ≠ gb1413)); clear HO_4; clear HO1422; clear BK1413; clear HB; have HO_4 := n0_; have HO1422 := n1_; have BK1413 := n2_; have HB := n3_; have BK1427 := n4_; have GW1427 := n5_; have GE1427 := n6_; have NB1413_1427 := n7_; have NB1427_1413 := n8_; clear n0_ n1_ n2_ n3_ n4_ n5_ n6_ n7_ n8_; clear hb hbox hg) | ((with_reducible refine gate_dst (N := 9) rfl ?_); refine box_event ?hg (N := 9) ?hd (cs := #[.int .i64 0, .int .i64 0]) (t := 65) ?hr ?_; (case hd => rfl); (case hg => rfl); (case hr => first | (go_simp; done) | (go_simp; rfl)); intro gb1428 hg w37 hbox hb; have n0_ := zA (Kd.S_below (by (with_reducible repeat (first | apply yE | apply yF | apply yG)); exact HO_4.out) hb); have n1_ := zA (Kd.R_below (by (with_reducible repeat (first | apply zN | apply zM | apply zO)); exact HO1422.out) hb); have n2_ := zA (blk_below (g := gb1413) (o := .cells #[.int .i64 x1414000_2, .int .i64 x1414001_2] 65 (0, 0)) (by (with_reducible repeat (first | refine zG ?_ _ | refine zH ?_ | refine zD ?_ _)); exact BK1413.out) hb); have n3_ := zA (blk_below (g := gb1427) (o := .cells #[.int .i64 0, .slice none 0 0] 131 (0, 0)) (by (with_reducible repeat (first | refine zG ?_ _ | refine zH ?_ | refine zD ?_ _)); exact BK1427.out) hb); have n4_ := zA (below_step (by repeat (first | (with_reducible first | exact HB.out | apply zC | apply zB | apply zF | refine zE ?_ GE1413.out | refine zE ?_ GE1427.out) | exact HB.out)) hb); have n5_ := zA (hbox); have n6_ := zA ((by rw [hg]; exact (zL (by repeat (first | (with_reducible first | exact HB.out | apply zC | apply zB | apply zF | refine zE ?_ GE1413.out | refine zE ?_ GE1427.out) | exact HB.out))) : w.heap.size ≤ gb1428)); have n7_ := zA ((by rw [hg]; exact (zL (by repeat (first | (with_reducible first | exact HB.out | apply zC | apply zB | apply zF | refine zE ?_ GE1413.out | refine zE ?_ GE1427.out) | exact HB.out))) : w.heap.size ≤ gb1428)); have n8_ := zA ((by rw [hg]; exact Nat.ne_of_lt (blk_lt (g := gb1413) (o := .cells #[.int .i64 x1414000_2, .int .i64 x1414001_2] 65 (0, 0)) (by (with_reducible repeat (first | refine zG ?_ _ | refine zH ?_ | refine zD ?_ _)); exact BK1413.out)) : gb1413 ≠ gb1428)); have n9_ := zA ((by rw [hg]; exact Nat.ne_of_gt (blk_lt (g := gb1413) (o := .cells #[.int .i64 x1414000_2, .int .i64 x1414001_2] 65 (0, 0)) (by (with_reducible repeat (first | refine zG ?_ _ | refine zH ?_ | refine zD ?_ _)); exact BK1413.out)) : gb1428 ≠ gb1413)); have n10_ := zA ((by rw [hg]; exact Nat.ne_of_lt (blk_lt (g := gb1427) (o := .cells #[.int .i64 0, .slice none 0 0] 131 (0, 0)) (by (with_reducible repeat (first | refine zG ?_ _ | refine zH ?_ | refine zD ?_ _)); exact BK1427.out)) : gb1427 ≠ gb1428)); have n11_ := zA ((by rw [hg]; exact Nat.ne_of_gt (blk_lt (g := gb1427) (o := .cells #[.int .i64 0, .slice none 0 0] 131 (0, 0)) (by (with_reducible repeat (first | refine zG ?_ _ | refine zH ?_ | refine zD ?_ _)); exact BK1427.out)) : gb1428 ≠ gb1427)); clear HO_4; clear HO1422; clear BK1413; clear BK1427; clear HB; have HO_4 := n0_; have HO1422 := n1_; have BK1413 := n2_; have BK1427 := n3_; have HB := n4_; have BK1428 := n5_; have GW1428 := n6_; have GE1428 := n7_; have NB1413_1428 := n8_; have NB1428_1413 := n9_; have NB1427_1428 := n10_; have NB1428_1427 := n11_; clear n0_ n1_ n2_ n3_ n4_ n5_ n6_ n7_ n8_ n9_ n10_ n11_; clear hb hbox hg; have hnb38 := NB1427_1413.out; have hnc38 := NB1413_1427.out; have hnb39 := NB1427_1428.out; have hnc39 := NB1428_1427.out; have hcz40_0 : w37.cell? ⟨gb1427, 0, none⟩ = some (.int .i64 0) := (zK BK1427.out 0).trans rfl; have hcz40_1 : w37.cell? ⟨gb1427, 1, none⟩ = some (.slice none 0 0) := (zK BK1427.out 1).trans rfl; have hfz40_0 := zJ BK1427.out 0; have hfz40_1 := zJ BK1427.out 1; obtain ⟨Ao41, co41, eo41⟩ := Kd.R_slice HO1422.out; subst eo41; have hnb42 := NB1428_1413.out; have hnc42 := NB1413_1428.out; have hcz43_0 : w37.cell? ⟨gb1428, 0, none⟩ = some (.int .i64 0) := (zK BK1428.out 0).trans rfl; have hcz43_1 : w37.cell? ⟨gb1428, 1, none⟩ = some (.int .i64 0) := (zK BK1428.out 1).trans rfl; have hfz43_0 := zJ BK1428.out 0; have hfz43_1 := zJ BK1428.out 1; have hcz44_0 : w37.cell? ⟨gb1413, 0, none⟩ = some (.int .i64 x1414000_2) := (zK BK1413.out 0).trans rfl; have hcz44_1 : w37.cell? ⟨gb1413, 1, none⟩ = some (.int .i64 x1414001_2) := (zK BK1413.out 1).trans rfl; have hfz44_0 := zJ BK1413.out 0; have hfz44_1 := zJ BK1413.out 1))
          refine bodyPost_ret (results_tc rfl _ _ gb1413 65 #[.int .i64 0, .int .i64 0] (0, 0) _ rfl (by (with_reducible repeat (first | refine zG ?_ _ | refine zH ?_ | refine zD ?_ _)); refine blk_put (cs := #[.int .i64 0, .int .i64 x1414001_2]) ?_ 1 _ rfl; (with_reducible repeat (first | refine zG ?_ _ | refine zH ?_ | refine zD ?_ _)); refine blk_put (cs := #[.int .i64 x1414000_2, .int .i64 x1414001_2]) ?_ 0 _ rfl; (with_reducible repeat (first | refine zG ?_ _ | refine zH ?_ | refine zD ?_ _)); refine blk_far ?_ NB1413_1428.out _; (with_reducible repeat (first | refine zG ?_ _ | refine zH ?_ | refine zD ?_ _)); refine blk_far ?_ NB1413_1428.out _; (with_reducible repeat (first | refine zG ?_ _ | refine zH ?_ | refine zD ?_ _)); refine blk_far ?_ NB1413_1427.out _; (with_reducible repeat (first | refine zG ?_ _ | refine zH ?_ | refine zD ?_ _)); refine blk_far ?_ NB1413_1427.out _; (with_reducible repeat (first | refine zG ?_ _ | refine zH ?_ | refine zD ?_ _)); exact BK1413.out) Try.underlying65 rfl (by kernel_rfl)) rfl ?_
          exact ⟨_, by first | rfl | (simp [errW_none, errW_some] <;> rfl) | (simp [*, errW_none, errW_some] <;> rfl), by (with_reducible repeat (first | apply yE | apply yF | apply yG)); exact yH (yI (p := ⟨gb1413, 1, none⟩) (yI (p := ⟨gb1413, 0, none⟩) (yI (p := ⟨gb1428, 1, none⟩) (yI (p := ⟨gb1428, 0, none⟩) (yI (p := ⟨gb1427, 1, none⟩) (yI (p := ⟨gb1427, 0, none⟩) (Kd.S_types (Kd.S_types (yH HO_4.out (fun k_ hk => (⟨hk, hk.2⟩ : _ ∧ k_ ≠ gb1427))) BK1428.out (by decide)) BK1413.out (by decide)) (fun _ hk => hk.1.1.2) (.int .i64 t1419)) (fun _ hk => hk.1.1.2) (.slice Ao41 t1420.length co41)) (fun _ hk => hk.1.2) (.int .i64 t1424)) (fun _ hk => hk.1.2) (.int .i64 t1425)) (fun _ hk => hk.2) (.int .i64 0)) (fun _ hk => hk.2) (.int .i64 0)) (fun _ hk => trivial), by repeat (first | (with_reducible first | exact HB.out | apply zC | apply zB | apply zF | refine zE ?_ GE1413.out | refine zE ?_ GE1427.out | refine zE ?_ GE1428.out) | exact HB.out)⟩
        ·replace c19 := Bool.eq_false_iff.mpr c19
         subst c19
         have H1 : (if x4_2.length < 4398046511104 then ((spec_l02Kind.f t1419).bind fun t1435 => (spec_ReadSegs.l0 k2 l0 (x4_2 ++ [(⟨t1419, t1420⟩ : S131)]) t1423 t1435)) else (none)) = some (r1, r2, r3) := by rw [if_neg (show ¬ (false = true) by decide)] at H; exact H
         clear H
         have H := H1
         clear H1
         by_cases c45 : x4_2.length < 4398046511104
         ·rw [if_pos c45] at H
          have LMc45 := zA c45
          clear c45
          obtain ⟨y1432, hy1432⟩ : ∃ y_ : List (S131), y_ = (x4_2 ++ [(⟨t1419, t1420⟩ : S131)]) := ⟨_, rfl⟩
          replace H : ((spec_l02Kind.f t1419).bind fun t1435 => (spec_ReadSegs.l0 k2 l0 y1432 t1423 t1435)) = some (r1, r2, r3) := by first | (rw [hy1432]; with_reducible exact H) | (have H2_ := (zS _ _).symm.trans H; rw [hy1432]; with_reducible exact H2_) | (have H2_ := (zS _ _).symm.trans H; with_reducible exact H2_) | with_reducible exact H | (rw [hy1432]; exact H) | exact H
          have Ny1432 := zA hy1432
          clear hy1432
          replace H := Option.bind_eq_some_iff.mp H
          obtain ⟨t1435, A460, H⟩ := H
          replace H : (spec_ReadSegs.l0 k2 l0 y1432 t1423 t1435) = some (r1, r2, r3) := H
          have A46 := zA A460
          clear A460
          have H' := zA H
          clear H
          obtain ⟨Ao47, co47, eo47⟩ := Kd.S_slice HO_4.out
          subst eo47
          go_wp2_with (first | ((with_reducible refine gate_callee (f := 131) rfl ?_); refine goesL_ (some 41) rfl rfl Try.func131 (by kernel_rfl) rfl #[.slice A0 l0.length c0, .int .i64 x5_2, .int .i64 x6_2, .bool ((x4_2.length : Int) == 300)] rfl (by (try simp only [zU, zV, zW]); first | done | rfl | (simp only [zR, zQ]; rfl)) ?_; (with_reducible refine (spec_l02Next.calls k2 _ _ l0 x5_2 x6_2 ((x4_2.length : Int) == 300) t1419 t1420 t1423 t1424 t1425 false _ ?side1 ?side2 A17.out).mono ?_); (case side1 => repeat (first | exact (Kd.C_below HR0.out HB.out) | (with_reducible refine yN ?_ _) | (with_reducible refine yL ?_ _) | (with_reducible refine yM ?_))); (case side2 => exact HC0.out); rintro e w48 ⟨v1421, rfl, ho0, hb⟩; refine ⟨_, rfl, ?_⟩; have n0_ := zA (Kd.S_elder' (by (with_reducible repeat (first | apply yE | apply yF | apply yG)); exact HO_4.out) (Kd.R_base ho0) hb); have n1_ := zA (Kd.R_lower ho0 (zL (by repeat (first | (with_reducible first | exact HB.out | apply zC | apply zB | apply zF | refine zE ?_ GE1413.out) | exact HB.out)))); have n2_ := zA (blk_below (g := gb1413) (o := .cells #[.int .i64 x1414000_2, .int .i64 x1414001_2] 65 (0, 0)) (by (with_reducible repeat (first | refine zG ?_ _ | refine zH ?_ | refine zD ?_ _)); exact BK1413.out) hb); have n3_ := zA (below_step (by repeat (first | (with_reducible first | exact HB.out | apply zC | apply zB | apply zF | refine zE ?_ GE1413.out) | exact HB.out)) hb); clear HO_4; clear BK1413; clear HB; have HO_4 := n0_; have HO1422 := n1_; have BK1413 := n2_; have HB := n3_; clear n0_ n1_ n2_ n3_; (try clear hb); (try clear hb2); (try clear hk); (try clear hi); (try clear ho0)) | ((with_reducible refine gate_dst (N := 7) rfl ?_); refine box_event ?hg (N := 7) ?hd (cs := #[.int .i64 0, .slice none 0 0]) (t := 131) ?hr ?_; (case hd => rfl); (case hg => rfl); (case hr => first | (go_simp; done) | (go_simp; rfl)); intro gb1427 hg w49 hbox hb; have n0_ := zA (Kd.S_below (Kd.S_elderB (by (with_reducible repeat (first | apply yE | apply yF | apply yG)); exact HO_4.out) gb1427 (Nat.le_of_eq hg.symm)) hb); have n1_ := zA (Kd.R_below (by (with_reducible repeat (first | apply zN | apply zM | apply zO)); exact HO1422.out) hb); have n2_ := zA (blk_below (g := gb1413) (o := .cells #[.int .i64 x1414000_2, .int .i64 x1414001_2] 65 (0, 0)) (by (with_reducible repeat (first | refine zG ?_ _ | refine zH ?_ | refine zD ?_ _)); exact BK1413.out) hb); have n3_ := zA (below_step (by repeat (first | (with_reducible first | exact HB.out | apply zC | apply zB | apply zF | refine zE ?_ GE1413.out) | exact HB.out)) hb); have n4_ := zA (hbox); have n5_ := zA ((by rw [hg]; exact (zL (by repeat (first | (with_reducible first | exact HB.out | apply zC | apply zB | apply zF | refine zE ?_ GE1413.out) | exact HB.out))) : w.heap.size ≤ gb1427)); have n6_ := zA ((by rw [hg]; exact (zL (by repeat (first | (with_reducible first | exact HB.out | apply zC | apply zB | apply zF | refine zE ?_ GE1413.out) | exact HB.out))) : w.heap.size ≤ gb1427)); have n7_ := zA ((by rw [hg]; exact Nat.ne_of_lt (blk_lt (g := gb1413) (o := .cells #[.int .i64 x1414000_2, .int .i64 x1414001_2] 65 (0, 0)) (by (with_reducible repeat (first | refine zG ?_ _ | refine zH ?_ | refine zD ?_ _)); exact BK1413.out)) : gb1413 ≠ gb1427)); have n8_ := zA ((by rw [hg]; exact Nat.ne_of_gt (blk_lt (g := gb1413) (o := .cells #[.int .i64 x1414000_2, .int .i64 x1414001_2] 65 (0, 0)) (by (with_reducible repeat (first | refine zG ?_ _ | refine zH ?_ | refine zD ?_ _)); exact BK1413.out)) : gb1427 ≠ gb1413)); clear HO_4; clear HO1422; clear BK1413; clear HB; have HO_4 := n0_; have HO1422 := n1_; have BK1413 := n2_; have HB := n3_; have BK1427 := n4_; have GW1427 := n5_; have GE1427 := n6_; have NB1413_1427 := n7_; have NB1427_1413 := n8_; clear n0_ n1_ n2_ n3_ n4_ n5_ n6_ n7_ n8_; clear hb hbox hg) | ((with_reducible refine gate_dst (N := 9) rfl ?_); refine box_event ?hg (N := 9) ?hd (cs := #[.int .i64 0, .int .i64 0]) (t := 65) ?hr ?_; (case hd => rfl); (case hg => rfl); (case hr => first | (go_simp; done) | (go_simp; rfl)); intro gb1428 hg w50 hbox hb; have n0_ := zA (Kd.S_below (by (with_reducible repeat (first | apply yE | apply yF | apply yG)); exact HO_4.out) hb); have n1_ := zA (Kd.R_below (by (with_reducible repeat (first | apply zN | apply zM | apply zO)); exact HO1422.out) hb); have n2_ := zA (blk_below (g := gb1413) (o := .cells #[.int .i64 x1414000_2, .int .i64 x1414001_2] 65 (0, 0)) (by (with_reducible repeat (first | refine zG ?_ _ | refine zH ?_ | refine zD ?_ _)); exact BK1413.out) hb); have n3_ := zA (blk_below (g := gb1427) (o := .cells #[.int .i64 0, .slice none 0 0] 131 (0, 0)) (by (with_reducible repeat (first | refine zG ?_ _ | refine zH ?_ | refine zD ?_ _)); exact BK1427.out) hb); have n4_ := zA (below_step (by repeat (first | (with_reducible first | exact HB.out | apply zC | apply zB | apply zF | refine zE ?_ GE1413.out | refine zE ?_ GE1427.out) | exact HB.out)) hb); have n5_ := zA (hbox); have n6_ := zA ((by rw [hg]; exact (zL (by repeat (first | (with_reducible first | exact HB.out | apply zC | apply zB | apply zF | refine zE ?_ GE1413.out | refine zE ?_ GE1427.out) | exact HB.out))) : w.heap.size ≤ gb1428)); have n7_ := zA ((by rw [hg]; exact (zL (by repeat (first | (with_reducible first | exact HB.out | apply zC | apply zB | apply zF | refine zE ?_ GE1413.out | refine zE ?_ GE1427.out) | exact HB.out))) : w.heap.size ≤ gb1428)); have n8_ := zA ((by rw [hg]; exact Nat.ne_of_lt (blk_lt (g := gb1413) (o := .cells #[.int .i64 x1414000_2, .int .i64 x1414001_2] 65 (0, 0)) (by (with_reducible repeat (first | refine zG ?_ _ | refine zH ?_ | refine zD ?_ _)); exact BK1413.out)) : gb1413 ≠ gb1428)); have n9_ := zA ((by rw [hg]; exact Nat.ne_of_gt (blk_lt (g := gb1413) (o := .cells #[.int .i64 x1414000_2, .int .i64 x1414001_2] 65 (0, 0)) (by (with_reducible repeat (first | refine zG ?_ _ | refine zH ?_ | refine zD ?_ _)); exact BK1413.out)) : gb1428 ≠ gb1413)); have n10_ := zA ((by rw [hg]; exact Nat.ne_of_lt (blk_lt (g := gb1427) (o := .cells #[.int .i64 0, .slice none 0 0] 131 (0, 0)) (by (with_reducible repeat (first | refine zG ?_ _ | refine zH ?_ | refine zD ?_ _)); exact BK1427.out)) : gb1427 ≠ gb1428)); have n11_ := zA ((by rw [hg]; exact Nat.ne_of_gt (blk_lt (g := gb1427) (o := .cells #[.int .i64 0, .slice none 0 0] 131 (0, 0)) (by (with_reducible repeat (first | refine zG ?_ _ | refine zH ?_ | refine zD ?_ _)); exact BK1427.out)) : gb1428 ≠ gb1427)); clear HO_4; clear HO1422; clear BK1413; clear BK1427; clear HB; have HO_4 := n0_; have HO1422 := n1_; have BK1413 := n2_; have BK1427 := n3_; have HB := n4_; have BK1428 := n5_; have GW1428 := n6_; have GE1428 := n7_; have NB1413_1428 := n8_; have NB1428_1413 := n9_; have NB1427_1428 := n10_; have NB1428_1427 := n11_; clear n0_ n1_ n2_ n3_ n4_ n5_ n6_ n7_ n8_ n9_ n10_ n11_; clear hb hbox hg; have hnb51 := NB1427_1413.out; have hnc51 := NB1413_1427.out; have hnb52 := NB1427_1428.out; have hnc52 := NB1428_1427.out; have hcz53_0 : w50.cell? ⟨gb1427, 0, none⟩ = some (.int .i64 0) := (zK BK1427.out 0).trans rfl; have hcz53_1 : w50.cell? ⟨gb1427, 1, none⟩ = some (.slice none 0 0) := (zK BK1427.out 1).trans rfl; have hfz53_0 := zJ BK1427.out 0; have hfz53_1 := zJ BK1427.out 1; obtain ⟨Ao54, co54, eo54⟩ := Kd.R_slice HO1422.out; subst eo54) | ((with_reducible refine gate_store (t := 131) (p := 7) rfl ?_); refine store_event (t := 131) (p := 7) (v := ?vo_w55) (w1 := ((w50.setCell ⟨gb1427, 0, none⟩ (.int .i64 t1419)).setCell ⟨gb1427, 1, none⟩ (.slice Ao54 t1420.length co54))) ?hg ?ho ?hn ?hr ?_; (case ho => rfl); (case hg => rfl); (case hn => rfl); (case hr => first | (go_simp; done) | (go_simp; rfl)); intro w55 hw; have n0_ : Aside0 (Kd.S k131 131 w55 w.heap.size (fun k_ => some k_ ≠ (.slice Ao54 t1420.length co54 : Value).ownBlock ∧ k_ ≠ gb1427) (.slice Ao47 x4_2.length co47) x4_2) := ⟨(by rw [hw]; exact (by (with_reducible repeat (first | apply yE | apply yF | apply yG)); exact yH (yI (p := ⟨gb1427, 1, none⟩) (yI (p := ⟨gb1427, 0, none⟩) (yH HO_4.out (fun k_ hk => (⟨hk, hk.2⟩ : _ ∧ k_ ≠ gb1427))) (fun _ hk => hk.2) (.int .i64 t1419)) (fun _ hk => hk.2) (.slice Ao54 t1420.length co54)) (fun _ hk => ⟨hk.1.1.2, hk.1.2⟩)))⟩; have n1_ : Aside0 (Kd.R (Kd.int .u8) 5 w55 w.heap.size (fun _ => True) (.slice Ao54 t1420.length co54) t1420) := ⟨(by rw [hw]; exact (by (with_reducible repeat (first | apply zN | apply zM | apply zO)); exact zP (Kd.R_far (p := ⟨gb1427, 1, none⟩) (Kd.R_far (p := ⟨gb1427, 0, none⟩) (zY HO1422.out BK1427.out (by decide)) (fun _ hk => hk.2) (.int .i64 t1419)) (fun _ hk => hk.2) (.slice Ao54 t1420.length co54)) (fun _ hk => trivial)))⟩; have n2_ : Aside0 (w55.heap[gb1413]? = some (.cells #[.int .i64 x1414000_2, .int .i64 x1414001_2] 65 (0, 0))) := ⟨(by rw [hw]; exact (by (with_reducible repeat (first | refine zG ?_ _ | refine zH ?_ | refine zD ?_ _)); refine blk_far ?_ NB1413_1427.out _; (with_reducible repeat (first | refine zG ?_ _ | refine zH ?_ | refine zD ?_ _)); refine blk_far ?_ NB1413_1427.out _; (with_reducible repeat (first | refine zG ?_ _ | refine zH ?_ | refine zD ?_ _)); exact BK1413.out))⟩; have n3_ : Aside0 (w55.heap[gb1427]? = some (.cells #[.int .i64 t1419, .slice Ao54 t1420.length co54] 131 (0, 0))) := ⟨(by rw [hw]; exact (by (with_reducible repeat (first | refine zG ?_ _ | refine zH ?_ | refine zD ?_ _)); refine blk_put (cs := #[.int .i64 t1419, .slice none 0 0]) ?_ 1 _ rfl; (with_reducible repeat (first | refine zG ?_ _ | refine zH ?_ | refine zD ?_ _)); refine blk_put (cs := #[.int .i64 0, .slice none 0 0]) ?_ 0 _ rfl; (with_reducible repeat (first | refine zG ?_ _ | refine zH ?_ | refine zD ?_ _)); exact BK1427.out))⟩; have n4_ : Aside0 (w55.heap[gb1428]? = some (.cells #[.int .i64 0, .int .i64 0] 65 (0, 0))) := ⟨(by rw [hw]; exact (by (with_reducible repeat (first | refine zG ?_ _ | refine zH ?_ | refine zD ?_ _)); refine blk_far ?_ NB1428_1427.out _; (with_reducible repeat (first | refine zG ?_ _ | refine zH ?_ | refine zD ?_ _)); refine blk_far ?_ NB1428_1427.out _; (with_reducible repeat (first | refine zG ?_ _ | refine zH ?_ | refine zD ?_ _)); exact BK1428.out))⟩; have n5_ : Aside0 (Below w.heap.size w w55) := ⟨(by rw [hw]; exact (by repeat (first | (with_reducible first | exact HB.out | apply zC | apply zB | apply zF | refine zE ?_ GE1413.out | refine zE ?_ GE1427.out | refine zE ?_ GE1428.out) | exact HB.out)))⟩; clear hw; clear HO_4; clear HO1422; clear BK1413; clear BK1427; clear BK1428; clear HB; have HO_4 := n0_; have HO1422 := n1_; have BK1413 := n2_; have BK1427 := n3_; have BK1428 := n4_; have HB := n5_; clear n0_ n1_ n2_ n3_ n4_ n5_; have hnb56 := NB1428_1413.out; have hnc56 := NB1413_1428.out; have hcz57_0 : w55.cell? ⟨gb1428, 0, none⟩ = some (.int .i64 0) := (zK BK1428.out 0).trans rfl; have hcz57_1 : w55.cell? ⟨gb1428, 1, none⟩ = some (.int .i64 0) := (zK BK1428.out 1).trans rfl; have hfz57_0 := zJ BK1428.out 0; have hfz57_1 := zJ BK1428.out 1) | ((with_reducible refine gate_store (t := 65) (p := 9) rfl ?_); refine store_event (t := 65) (p := 9) (v := ?vo_w58) (w1 := ((w55.setCell ⟨gb1428, 0, none⟩ (.int .i64 t1424)).setCell ⟨gb1428, 1, none⟩ (.int .i64 t1425))) ?hg ?ho ?hn ?hr ?_; (case ho => rfl); (case hg => rfl); (case hn => rfl); (case hr => first | (go_simp; done) | (go_simp; rfl)); intro w58 hw; have n0_ : Aside0 (Kd.S k131 131 w58 w.heap.size (fun k_ => some k_ ≠ (.slice Ao54 t1420.length co54 : Value).ownBlock ∧ k_ ≠ gb1427) (.slice Ao47 x4_2.length co47) x4_2) := ⟨(by rw [hw]; exact (by (with_reducible repeat (first | apply yE | apply yF | apply yG)); exact yH (yI (p := ⟨gb1428, 1, none⟩) (yI (p := ⟨gb1428, 0, none⟩) (Kd.S_types HO_4.out BK1428.out (by decide)) (fun _ hk => hk.2) (.int .i64 t1424)) (fun _ hk => hk.2) (.int .i64 t1425)) (fun _ hk => ⟨hk.1.1, hk.1.2⟩)))⟩; have n1_ : Aside0 (Kd.R (Kd.int .u8) 5 w58 w.heap.size (fun _ => True) (.slice Ao54 t1420.length co54) t1420) := ⟨(by rw [hw]; exact (by (with_reducible repeat (first | apply zN | apply zM | apply zO)); exact zP (Kd.R_far (p := ⟨gb1428, 1, none⟩) (Kd.R_far (p := ⟨gb1428, 0, none⟩) (zY HO1422.out BK1428.out (by decide)) (fun _ hk => hk.2) (.int .i64 t1424)) (fun _ hk => hk.2) (.int .i64 t1425)) (fun _ hk => trivial)))⟩; have n2_ : Aside0 (w58.heap[gb1413]? = some (.cells #[.int .i64 x1414000_2, .int .i64 x1414001_2] 65 (0, 0))) := ⟨(by rw [hw]; exact (by (with_reducible repeat (first | refine zG ?_ _ | refine zH ?_ | refine zD ?_ _)); refine blk_far ?_ NB1413_1428.out _; (with_reducible repeat (first | refine zG ?_ _ | refine zH ?_ | refine zD ?_ _)); refine blk_far ?_ NB1413_1428.out _; (with_reducible repeat (first | refine zG ?_ _ | refine zH ?_ | refine zD ?_ _)); exact BK1413.out))⟩; have n3_ : Aside0 (w58.heap[gb1427]? = some (.cells #[.int .i64 t1419, .slice Ao54 t1420.length co54] 131 (0, 0))) := ⟨(by rw [hw]; exact (by (with_reducible repeat (first | refine zG ?_ _ | refine zH ?_ | refine zD ?_ _)); refine blk_far ?_ NB1427_1428.out _; (with_reducible repeat (first | refine zG ?_ _ | refine zH ?_ | refine zD ?_ _)); refine blk_far ?_ NB1427_1428.out _; (with_reducible repeat (first | refine zG ?_ _ | refine zH ?_ | refine zD ?_ _)); exact BK1427.out))⟩; have n4_ : Aside0 (w58.heap[gb1428]? = some (.cells #[.int .i64 t1424, .int .i64 t1425] 65 (0, 0))) := ⟨(by rw [hw]; exact (by (with_reducible repeat (first | refine zG ?_ _ | refine zH ?_ | refine zD ?_ _)); refine blk_put (cs := #[.int .i64 t1424, .int .i64 0]) ?_ 1 _ rfl; (with_reducible repeat (first | refine zG ?_ _ | refine zH ?_ | refine zD ?_ _)); refine blk_put (cs := #[.int .i64 0, .int .i64 0]) ?_ 0 _ rfl; (with_reducible repeat (first | refine zG ?_ _ | refine zH ?_ | refine zD ?_ _)); exact BK1428.out))⟩; have n5_ : Aside0 (Below w.heap.size w w58) := ⟨(by rw [hw]; exact (by repeat (first | (with_reducible first | exact HB.out | apply zC | apply zB | apply zF | refine zE ?_ GE1413.out | refine zE ?_ GE1427.out | refine zE ?_ GE1428.out) | exact HB.out)))⟩; clear hw; clear HO_4; clear HO1422; clear BK1413; clear BK1427; clear BK1428; clear HB; have HO_4 := n0_; have HO1422 := n1_; have BK1413 := n2_; have BK1427 := n3_; have BK1428 := n4_; have HB := n5_; clear n0_ n1_ n2_ n3_ n4_ n5_; have hcz59_0 : w58.cell? ⟨gb1428, 0, none⟩ = some (.int .i64 t1424) := (zK BK1428.out 0).trans rfl; have hcz59_1 : w58.cell? ⟨gb1428, 1, none⟩ = some (.int .i64 t1425) := (zK BK1428.out 1).trans rfl; have hfz59_0 := zJ BK1428.out 0; have hfz59_1 := zJ BK1428.out 1; have hcz60_0 : w58.cell? ⟨gb1427, 0, none⟩ = some (.int .i64 t1419) := (zK BK1427.out 0).trans rfl; have hcz60_1 : w58.cell? ⟨gb1427, 1, none⟩ = some (.slice Ao54 t1420.length co54) := (zK BK1427.out 1).trans rfl; have hfz60_0 := zJ BK1427.out 0; have hfz60_1 := zJ BK1427.out 1) | ((with_reducible refine gate_builtin (b := .append) (xs := #[.tmp 53, .tmp 55]) rfl ?_); at_builtin; refine Kd.S_append k131 (w0 := w) w.heap.size rfl (.tmp 53) (.tmp 55) 63 131 (.agg #[(.int .i64 0), (.slice none 0 0)]) 32 rfl Try.underlying63 info131 rfl (by decide) (by omega) (.slice Ao47 x4_2.length co47) x4_2 (⟨t1419, t1420⟩ : S131) [.int .i64 t1419, .slice Ao54 t1420.length co54] (fun k_ => k_ ≠ gb1427) (fun k_ => some k_ = (.slice Ao54 t1420.length co54 : Value).ownBlock) rfl rfl ?aP (fun k_ hk_ => ((zP (ok' := fun k_ => ((fun k_ => k_ ≠ gb1427)) k_ ∧ some k_ ≠ (.slice Ao47 x4_2.length co47 : Value).ownBlock) (zY (Kd.R_apart' (HO1422.out) (Kd.S_typed HO_4.out) (by decide)) BK1427.out (by decide)) (fun k_ hk => ⟨hk.2, hk.1.2⟩))).1 k_ hk_.symm) ?aF ?aO ?aB ?aS ?aL ?_; (case aP => exact k131_mkM _ _ _ (⟨t1419, t1420⟩ : S131) (zP (Kd.R_tight rfl (zP (ok' := fun k_ => ((fun k_ => k_ ≠ gb1427)) k_ ∧ some k_ ≠ (.slice Ao47 x4_2.length co47 : Value).ownBlock) (zY (Kd.R_apart' (HO1422.out) (Kd.S_typed HO_4.out) (by decide)) BK1427.out (by decide)) (fun k_ hk => ⟨hk.2, hk.1.2⟩))) (fun _ h_ => h_))); (case aB => exact (by repeat (first | (with_reducible first | exact HB.out | apply zC | apply zB | apply zF | refine zE ?_ GE1413.out | refine zE ?_ GE1427.out | refine zE ?_ GE1428.out) | exact HB.out))); (case aF => exact (fun k_ hk => Kd.freshB (g := gb1427) (o := .cells #[.int .i64 t1419, .slice Ao54 t1420.length co54] 131 (0, 0)) (by (with_reducible repeat (first | refine zG ?_ _ | refine zH ?_ | refine zD ?_ _)); exact BK1427.out) k_ hk)); (case aO => exact (by (with_reducible repeat (first | apply yE | apply yF | apply yG)); exact yH HO_4.out (fun k_ hk => ⟨hk.2, fun e_ => hk.1 e_⟩))); (case aS => exact (zL (by repeat (first | (with_reducible first | exact HB.out | apply zC | apply zB | apply zF | refine zE ?_ GE1413.out | refine zE ?_ GE1427.out | refine zE ?_ GE1428.out) | exact HB.out)))); (case aL => have := LMc45.out; omega); intro v1433 w61 ho hb hg hat; rw [← Ny1432.out] at ho; have n0_ := zA (blk_grown (g := gb1413) (o := .cells #[.int .i64 x1414000_2, .int .i64 x1414001_2] 65 (0, 0)) (by (with_reducible repeat (first | refine zG ?_ _ | refine zH ?_ | refine zD ?_ _)); exact BK1413.out) hg (Kd.S_ne HO_4.out BK1413.out (by decide))); have n1_ := zA (blk_grown (g := gb1427) (o := .cells #[.int .i64 t1419, .slice Ao54 t1420.length co54] 131 (0, 0)) (by (with_reducible repeat (first | refine zG ?_ _ | refine zH ?_ | refine zD ?_ _)); exact BK1427.out) hg (Kd.S_away HO_4.out (fun _ hk => hk.2))); have n2_ := zA (blk_grown (g := gb1428) (o := .cells #[.int .i64 t1424, .int .i64 t1425] 65 (0, 0)) (by (with_reducible repeat (first | refine zG ?_ _ | refine zH ?_ | refine zD ?_ _)); exact BK1428.out) hg (Kd.S_ne HO_4.out BK1428.out (by decide))); have n3_ := zA (hb); have n4_ := zA (ho); clear BK1413; clear BK1427; clear BK1428; clear HB; clear HO_4; clear HO1422; have BK1413 := n0_; have BK1427 := n1_; have BK1428 := n2_; have HB := n3_; have HO1434 := n4_; clear n0_ n1_ n2_ n3_ n4_; clear ho hb hg hat; have hcz62_0 : w61.cell? ⟨gb1427, 0, none⟩ = some (.int .i64 t1419) := (zK BK1427.out 0).trans rfl; have hcz62_1 : w61.cell? ⟨gb1427, 1, none⟩ = some (.slice Ao54 t1420.length co54) := (zK BK1427.out 1).trans rfl; have hfz62_0 := zJ BK1427.out 0; have hfz62_1 := zJ BK1427.out 1) | ((with_reducible refine gate_callee (f := 132) rfl ?_); refine goesL_ (some 59) rfl rfl Try.func132 (by kernel_rfl) rfl #[.int .i64 t1419] rfl (by (try simp only [zU, zV, zW]); first | done | rfl | (simp only [zR, zQ]; rfl)) ?_; (with_reducible refine (spec_l02Kind.calls t1419 t1435 _ A46.out).mono ?_); rintro e w' ⟨rfl, ⟨nd, rfl⟩⟩; refine ⟨_, rfl, ?_⟩))
          go_roundg k2
          case measure => have := HJ6.out; have := HK2.out; omega
          case rel => exact ⟨(y1432), (t1423), (t1435), (x1414000_2), (x1414001_2), (by first | rfl | (simp; done) | (simp [*]; done)), (by first | rfl | (simp; done) | (simp [*]; done)), H', ⟨by have := HJ6.out; have := HK2.out; omega⟩, ⟨by (with_reducible repeat (first | apply yE | apply yF | apply yG)); exact yH HO1434.out (fun _ hk => trivial)⟩, ⟨by (with_reducible repeat (first | refine zG ?_ _ | refine zH ?_ | refine zD ?_ _)); exact BK1413.out⟩, ⟨by repeat (first | (with_reducible first | exact HB.out | apply zC | apply zB | apply zF | refine zE ?_ GE1413.out | refine zE ?_ GE1427.out | refine zE ?_ GE1428.out) | exact HB.out)⟩⟩
         ·rw [if_neg c45] at H
          exact absurd H (by simp)
       ·rw [if_neg c18] at H
        have c18b0 : (t1424 == 0) = false := beq_eq_false_iff_ne.mpr c18
        have c18b1 : (t1424 != 0) = true := bne_iff_ne.mpr c18
        obtain ⟨y1436, hy1436⟩ : ∃ y_ : List (S131), y_ = (([] : List (S131))) := ⟨_, rfl⟩
        replace H : (some (y1436, t1424, t1425)) = some (r1, r2, r3) := by first | (rw [hy1436]; with_reducible exact H) | (have H2_ := (zS _ _).symm.trans H; rw [hy1436]; with_reducible exact H2_) | (have H2_ := (zS _ _).symm.trans H; with_reducible exact H2_) | with_reducible exact H | (rw [hy1436]; exact H) | exact H
        have Ny1436 := zA hy1436
        clear hy1436
        simp only [Option.some.injEq, Prod.mk.injEq] at H
        obtain ⟨rfl, rfl, rfl⟩ := H
        obtain ⟨Ao63, co63, eo63⟩ := Kd.S_slice HO_4.out
        subst eo63
        try go_wp2_with (first | ((with_reducible refine gate_callee (f := 131) rfl ?_); refine goesL_ (some 41) rfl rfl Try.func131 (by kernel_rfl) rfl #[.slice A0 l0.length c0, .int .i64 x5_2, .int .i64 x6_2, .bool ((x4_2.length : Int) == 300)] rfl (by (try simp only [zU, zV, zW]); first | done | rfl | (simp only [zR, zQ]; rfl)) ?_; (with_reducible refine (spec_l02Next.calls k2 _ _ l0 x5_2 x6_2 ((x4_2.length : Int) == 300) t1419 t1420 t1423 t1424 t1425 t1426 _ ?side1 ?side2 A17.out).mono ?_); (case side1 => repeat (first | exact (Kd.C_below HR0.out HB.out) | (with_reducible refine yN ?_ _) | (with_reducible refine yL ?_ _) | (with_reducible refine yM ?_))); (case side2 => exact HC0.out); rintro e w64 ⟨v1421, rfl, ho0, hb⟩; refine ⟨_, rfl, ?_⟩; have n0_ := zA (Kd.S_elder' (by (with_reducible repeat (first | apply yE | apply yF | apply yG)); exact HO_4.out) (Kd.R_base ho0) hb); have n1_ := zA (Kd.R_lower ho0 (zL (by repeat (first | (with_reducible first | exact HB.out | apply zC | apply zB | apply zF | refine zE ?_ GE1413.out) | exact HB.out)))); have n2_ := zA (blk_below (g := gb1413) (o := .cells #[.int .i64 x1414000_2, .int .i64 x1414001_2] 65 (0, 0)) (by (with_reducible repeat (first | refine zG ?_ _ | refine zH ?_ | refine zD ?_ _)); exact BK1413.out) hb); have n3_ := zA (below_step (by repeat (first | (with_reducible first | exact HB.out | apply zC | apply zB | apply zF | refine zE ?_ GE1413.out) | exact HB.out)) hb); clear HO_4; clear BK1413; clear HB; have HO_4 := n0_; have HO1422 := n1_; have BK1413 := n2_; have HB := n3_; clear n0_ n1_ n2_ n3_; (try clear hb); (try clear hb2); (try clear hk); (try clear hi); (try clear ho0)) | ((with_reducible refine gate_dst (N := 7) rfl ?_); refine box_event ?hg (N := 7) ?hd (cs := #[.int .i64 0, .slice none 0 0]) (t := 131) ?hr ?_; (case hd => rfl); (case hg => rfl); (case hr => first | (go_simp; done) | (go_simp; rfl)); intro gb1427 hg w65 hbox hb; have n0_ := zA (Kd.S_below (Kd.S_elderB (by (with_reducible repeat (first | apply yE | apply yF | apply yG)); exact HO_4.out) gb1427 (Nat.le_of_eq hg.symm)) hb); have n1_ := zA (Kd.R_below (by (with_reducible repeat (first | apply zN | apply zM | apply zO)); exact HO1422.out) hb); have n2_ := zA (blk_below (g := gb1413) (o := .cells #[.int .i64 x1414000_2, .int .i64 x1414001_2] 65 (0, 0)) (by (with_reducible repeat (first | refine zG ?_ _ | refine zH ?_ | refine zD ?_ _)); exact BK1413.out) hb); have n3_ := zA (below_step (by repeat (first | (with_reducible first | exact HB.out | apply zC | apply zB | apply zF | refine zE ?_ GE1413.out) | exact HB.out)) hb); have n4_ := zA (hbox); have n5_ := zA ((by rw [hg]; exact (zL (by repeat (first | (with_reducible first | exact HB.out | apply zC | apply zB | apply zF | refine zE ?_ GE1413.out) | exact HB.out))) : w.heap.size ≤ gb1427)); have n6_ := zA ((by rw [hg]; exact (zL (by repeat (first | (with_reducible first | exact HB.out | apply zC | apply zB | apply zF | refine zE ?_ GE1413.out) | exact HB.out))) : w.heap.size ≤ gb1427)); have n7_ := zA ((by rw [hg]; exact Nat.ne_of_lt (blk_lt (g := gb1413) (o := .cells #[.int .i64 x1414000_2, .int .i64 x1414001_2] 65 (0, 0)) (by (with_reducible repeat (first | refine zG ?_ _ | refine zH ?_ | refine zD ?_ _)); exact BK1413.out)) : gb1413 ≠ gb1427)); have n8_ := zA ((by rw [hg]; exact Nat.ne_of_gt (blk_lt (g := gb1413) (o := .cells #[.int .i64 x1414000_2, .int .i64 x1414001_2] 65 (0, 0)) (by (with_reducible repeat (first | refine zG ?_ _ | refine zH ?_ | refine zD ?_ _)); exact BK1413.out)) : gb1427 ≠ gb1413)); clear HO_4; clear HO1422; clear BK1413; clear HB; have HO_4 := n0_; have HO1422 := n1_; have BK1413 := n2_; have HB := n3_; have BK1427 := n4_; have GW1427 := n5_; have GE1427 := n6_; have NB1413_1427 := n7_; have NB1427_1413 := n8_; clear n0_ n1_ n2_ n3_ n4_ n5_ n6_ n7_ n8_; clear hb hbox hg) | ((with_reducible refine gate_dst (N := 9) rfl ?_); refine box_event ?hg (N := 9) ?hd (cs := #[.int .i64 0, .int .i64 0]) (t := 65) ?hr ?_; (case hd => rfl); (case hg => rfl); (case hr => first | (go_simp; done) | (go_simp; rfl)); intro gb1428 hg w66 hbox hb; have n0_ := zA (Kd.S_below (by (with_reducible repeat (first | apply yE | apply yF | apply yG)); exact HO_4.out) hb); have n1_ := zA (Kd.R_below (by (with_reducible repeat (first | apply zN | apply zM | apply zO)); exact HO1422.out) hb); have n2_ := zA (blk_below (g := gb1413) (o := .cells #[.int .i64 x1414000_2, .int .i64 x1414001_2] 65 (0, 0)) (by (with_reducible repeat (first | refine zG ?_ _ | refine zH ?_ | refine zD ?_ _)); exact BK1413.out) hb); have n3_ := zA (blk_below (g := gb1427) (o := .cells #[.int .i64 0, .slice none 0 0] 131 (0, 0)) (by (with_reducible repeat (first | refine zG ?_ _ | refine zH ?_ | refine zD ?_ _)); exact BK1427.out) hb); have n4_ := zA (below_step (by repeat (first | (with_reducible first | exact HB.out | apply zC | apply zB | apply zF | refine zE ?_ GE1413.out | refine zE ?_ GE1427.out) | exact HB.out)) hb); have n5_ := zA (hbox); have n6_ := zA ((by rw [hg]; exact (zL (by repeat (first | (with_reducible first | exact HB.out | apply zC | apply zB | apply zF | refine zE ?_ GE1413.out | refine zE ?_ GE1427.out) | exact HB.out))) : w.heap.size ≤ gb1428)); have n7_ := zA ((by rw [hg]; exact (zL (by repeat (first | (with_reducible first | exact HB.out | apply zC | apply zB | apply zF | refine zE ?_ GE1413.out | refine zE ?_ GE1427.out) | exact HB.out))) : w.heap.size ≤ gb1428)); have n8_ := zA ((by rw [hg]; exact Nat.ne_of_lt (blk_lt (g := gb1413) (o := .cells #[.int .i64 x1414000_2, .int .i64 x1414001_2] 65 (0, 0)) (by (with_reducible repeat (first | refine zG ?_ _ | refine zH ?_ | refine zD ?_ _)); exact BK1413.out)) : gb1413 ≠ gb1428)); have n9_ := zA ((by rw [hg]; exact Nat.ne_of_gt (blk_lt (g := gb1413) (o := .cells #[.int .i64 x1414000_2, .int .i64 x1414001_2] 65 (0, 0)) (by (with_reducible repeat (first | refine zG ?_ _ | refine zH ?_ | refine zD ?_ _)); exact BK1413.out)) : gb1428 ≠ gb1413)); have n10_ := zA ((by rw [hg]; exact Nat.ne_of_lt (blk_lt (g := gb1427) (o := .cells #[.int .i64 0, .slice none 0 0] 131 (0, 0)) (by (with_reducible repeat (first | refine zG ?_ _ | refine zH ?_ | refine zD ?_ _)); exact BK1427.out)) : gb1427 ≠ gb1428)); have n11_ := zA ((by rw [hg]; exact Nat.ne_of_gt (blk_lt (g := gb1427) (o := .cells #[.int .i64 0, .slice none 0 0] 131 (0, 0)) (by (with_reducible repeat (first | refine zG ?_ _ | refine zH ?_ | refine zD ?_ _)); exact BK1427.out)) : gb1428 ≠ gb1427)); clear HO_4; clear HO1422; clear BK1413; clear BK1427; clear HB; have HO_4 := n0_; have HO1422 := n1_; have BK1413 := n2_; have BK1427 := n3_; have HB := n4_; have BK1428 := n5_; have GW1428 := n6_; have GE1428 := n7_; have NB1413_1428 := n8_; have NB1428_1413 := n9_; have NB1427_1428 := n10_; have NB1428_1427 := n11_; clear n0_ n1_ n2_ n3_ n4_ n5_ n6_ n7_ n8_ n9_ n10_ n11_; clear hb hbox hg; have hnb67 := NB1427_1413.out; have hnc67 := NB1413_1427.out; have hnb68 := NB1427_1428.out; have hnc68 := NB1428_1427.out; have hcz69_0 : w66.cell? ⟨gb1427, 0, none⟩ = some (.int .i64 0) := (zK BK1427.out 0).trans rfl; have hcz69_1 : w66.cell? ⟨gb1427, 1, none⟩ = some (.slice none 0 0) := (zK BK1427.out 1).trans rfl; have hfz69_0 := zJ BK1427.out 0; have hfz69_1 := zJ BK1427.out 1; obtain ⟨Ao70, co70, eo70⟩ := Kd.R_slice HO1422.out; subst eo70; have hnb71 := NB1428_1413.out; have hnc71 := NB1413_1428.out; have hcz72_0 : w66.cell? ⟨gb1428, 0, none⟩ = some (.int .i64 0) := (zK BK1428.out 0).trans rfl; have hcz72_1 : w66.cell? ⟨gb1428, 1, none⟩ = some (.int .i64 0) := (zK BK1428.out 1).trans rfl; have hfz72_0 := zJ BK1428.out 0; have hfz72_1 := zJ BK1428.out 1))
        have n0_ : Aside0 (Kd.S k131 131 ((((w66.setCell ⟨gb1427, 0, none⟩ (.int .i64 t1419)).setCell ⟨gb1427, 1, none⟩ (.slice Ao70 t1420.length co70)).setCell ⟨gb1428, 0, none⟩ (.int .i64 t1424)).setCell ⟨gb1428, 1, none⟩ (.int .i64 t1425)) w.heap.size (fun k_ => some k_ ≠ (.slice Ao70 t1420.length co70 : Value).ownBlock ∧ k_ ≠ gb1427) (.slice Ao63 x4_2.length co63) x4_2) := ⟨by (with_reducible repeat (first | apply yE | apply yF | apply yG)); exact yH (yI (p := ⟨gb1428, 1, none⟩) (yI (p := ⟨gb1428, 0, none⟩) (yI (p := ⟨gb1427, 1, none⟩) (yI (p := ⟨gb1427, 0, none⟩) (Kd.S_types (yH HO_4.out (fun k_ hk => (⟨hk, hk.2⟩ : _ ∧ k_ ≠ gb1427))) BK1428.out (by decide)) (fun _ hk => hk.1.2) (.int .i64 t1419)) (fun _ hk => hk.1.2) (.slice Ao70 t1420.length co70)) (fun _ hk => hk.2) (.int .i64 t1424)) (fun _ hk => hk.2) (.int .i64 t1425)) (fun _ hk => ⟨hk.1.1.1.2, hk.1.1.2⟩)⟩
        have n1_ : Aside0 (Kd.R (Kd.int .u8) 5 ((((w66.setCell ⟨gb1427, 0, none⟩ (.int .i64 t1419)).setCell ⟨gb1427, 1, none⟩ (.slice Ao70 t1420.length co70)).setCell ⟨gb1428, 0, none⟩ (.int .i64 t1424)).setCell ⟨gb1428, 1, none⟩ (.int .i64 t1425)) w.heap.size (fun _ => True) (.slice Ao70 t1420.length co70) t1420) := ⟨by (with_reducible repeat (first | apply zN | apply zM | apply zO)); exact zP (Kd.R_far (p := ⟨gb1428, 1, none⟩) (Kd.R_far (p := ⟨gb1428, 0, none⟩) (Kd.R_far (p := ⟨gb1427, 1, none⟩) (Kd.R_far (p := ⟨gb1427, 0, none⟩) (zY (zY HO1422.out BK1427.out (by decide)) BK1428.out (by decide)) (fun _ hk => hk.1.2) (.int .i64 t1419)) (fun _ hk => hk.1.2) (.slice Ao70 t1420.length co70)) (fun _ hk => hk.2) (.int .i64 t1424)) (fun _ hk => hk.2) (.int .i64 t1425)) (fun _ hk => trivial)⟩
        have n2_ : Aside0 (((((w66.setCell ⟨gb1427, 0, none⟩ (.int .i64 t1419)).setCell ⟨gb1427, 1, none⟩ (.slice Ao70 t1420.length co70)).setCell ⟨gb1428, 0, none⟩ (.int .i64 t1424)).setCell ⟨gb1428, 1, none⟩ (.int .i64 t1425)).heap[gb1413]? = some (.cells #[.int .i64 x1414000_2, .int .i64 x1414001_2] 65 (0, 0))) := ⟨by (with_reducible repeat (first | refine zG ?_ _ | refine zH ?_ | refine zD ?_ _)); refine blk_far ?_ NB1413_1428.out _; (with_reducible repeat (first | refine zG ?_ _ | refine zH ?_ | refine zD ?_ _)); refine blk_far ?_ NB1413_1428.out _; (with_reducible repeat (first | refine zG ?_ _ | refine zH ?_ | refine zD ?_ _)); refine blk_far ?_ NB1413_1427.out _; (with_reducible repeat (first | refine zG ?_ _ | refine zH ?_ | refine zD ?_ _)); refine blk_far ?_ NB1413_1427.out _; (with_reducible repeat (first | refine zG ?_ _ | refine zH ?_ | refine zD ?_ _)); exact BK1413.out⟩
        have n3_ : Aside0 (((((w66.setCell ⟨gb1427, 0, none⟩ (.int .i64 t1419)).setCell ⟨gb1427, 1, none⟩ (.slice Ao70 t1420.length co70)).setCell ⟨gb1428, 0, none⟩ (.int .i64 t1424)).setCell ⟨gb1428, 1, none⟩ (.int .i64 t1425)).heap[gb1427]? = some (.cells #[.int .i64 t1419, .slice Ao70 t1420.length co70] 131 (0, 0))) := ⟨by (with_reducible repeat (first | refine zG ?_ _ | refine zH ?_ | refine zD ?_ _)); refine blk_far ?_ NB1427_1428.out _; (with_reducible repeat (first | refine zG ?_ _ | refine zH ?_ | refine zD ?_ _)); refine blk_far ?_ NB1427_1428.out _; (with_reducible repeat (first | refine zG ?_ _ | refine zH ?_ | refine zD ?_ _)); refine blk_put (cs := #[.int .i64 t1419, .slice none 0 0]) ?_ 1 _ rfl; (with_reducible repeat (first | refine zG ?_ _ | refine zH ?_ | refine zD ?_ _)); refine blk_put (cs := #[.int .i64 0, .slice none 0 0]) ?_ 0 _ rfl; (with_reducible repeat (first | refine zG ?_ _ | refine zH ?_ | refine zD ?_ _)); exact BK1427.out⟩
        have n4_ : Aside0 (((((w66.setCell ⟨gb1427, 0, none⟩ (.int .i64 t1419)).setCell ⟨gb1427, 1, none⟩ (.slice Ao70 t1420.length co70)).setCell ⟨gb1428, 0, none⟩ (.int .i64 t1424)).setCell ⟨gb1428, 1, none⟩ (.int .i64 t1425)).heap[gb1428]? = some (.cells #[.int .i64 t1424, .int .i64 t1425] 65 (0, 0))) := ⟨by (with_reducible repeat (first | refine zG ?_ _ | refine zH ?_ | refine zD ?_ _)); refine blk_put (cs := #[.int .i64 t1424, .int .i64 0]) ?_ 1 _ rfl; (with_reducible repeat (first | refine zG ?_ _ | refine zH ?_ | refine zD ?_ _)); refine blk_put (cs := #[.int .i64 0, .int .i64 0]) ?_ 0 _ rfl; (with_reducible repeat (first | refine zG ?_ _ | refine zH ?_ | refine zD ?_ _)); refine blk_far ?_ NB1428_1427.out _; (with_reducible repeat (first | refine zG ?_ _ | refine zH ?_ | refine zD ?_ _)); refine blk_far ?_ NB1428_1427.out _; (with_reducible repeat (first | refine zG ?_ _ | refine zH ?_ | refine zD ?_ _)); exact BK1428.out⟩
        have n5_ : Aside0 (Below w.heap.size w ((((w66.setCell ⟨gb1427, 0, none⟩ (.int .i64 t1419)).setCell ⟨gb1427, 1, none⟩ (.slice Ao70 t1420.length co70)).setCell ⟨gb1428, 0, none⟩ (.int .i64 t1424)).setCell ⟨gb1428, 1, none⟩ (.int .i64 t1425))) := ⟨by repeat (first | (with_reducible first | exact HB.out | apply zC | apply zB | apply zF | refine zE ?_ GE1413.out | refine zE ?_ GE1427.out | refine zE ?_ GE1428.out) | exact HB.out)⟩
        (try clear HO_4)
        (try clear HO1422)
        (try clear BK1413)
        (try clear BK1427)
        (try clear BK1428)
        (try clear HB)
        generalize ((((w66.setCell ⟨gb1427, 0, none⟩ (.int .i64 t1419)).setCell ⟨gb1427, 1, none⟩ (.slice Ao70 t1420.length co70)).setCell ⟨gb1428, 0, none⟩ (.int .i64 t1424)).setCell ⟨gb1428, 1, none⟩ (.int .i64 t1425)) = w73 at n0_ n1_ n2_ n3_ n4_ n5_ ⊢
        have HO_4 := n0_
        have HO1422 := n1_
        have BK1413 := n2_
        have BK1427 := n3_
        have BK1428 := n4_
        have HB := n5_
        clear n0_ n1_ n2_ n3_ n4_ n5_
        have n0_ := zA (yG HO_4.out)
        have n1_ := zA (zO HO1422.out)
        have n2_ := zA (zH BK1413.out)
        have n3_ := zA (zH BK1427.out)
        have n4_ := zA (zH BK1428.out)
        have n5_ := zA (zF HB.out)
        clear HO_4
        clear HO1422
        clear BK1413
        clear BK1427
        clear BK1428
        clear HB
        have HO_4 := n0_
        have HO1422 := n1_
        have BK1413 := n2_
        have BK1427 := n3_
        have BK1428 := n4_
        have HB := n5_
        clear n0_ n1_ n2_ n3_ n4_ n5_
        refine start_ (n := 4) (S := fun w' => w'.cell? ⟨gb1428, 0, none⟩ = some (.int .i64 t1424) ∧ w'.cell? ⟨gb1428, 1, none⟩ = some (.int .i64 t1425)) (ds := []) #[false, false, false, false] (by kernel_rfl) rfl rfl ⟨(zK BK1428.out 0).trans rfl, (zK BK1428.out 1).trans rfl⟩ (fun hHeld => ?_)
        generalize w73.drew = w74 at HO_4 HO1422 BK1413 BK1427 BK1428 HB hHeld ⊢
        refine take_ (i := 1) (N := some 50) (v := ?_) (a' := ?_) #[false, true, false, false] rfl rfl (by kernel_rfl) (fun _ _ _ h => h) (Or.inl ⟨by rfl, ?_⟩) hHeld ?_ ?_
        rotate_left
        ·rintro w' ⟨s0, s1⟩
         go_simp
         with_reducible rfl
        rotate_left
        ·simp only [Act.put, List.setIfInBounds_toArray, List.set_cons_zero, List.set_cons_succ, i64_w, i32_w]
         rfl
        refine one_ (i := 0) (N := some 49) #[true, true, false, false] rfl rfl (by kernel_rfl) (by decide) (fun K hK => ?_)
        refine Kd.S_lit_step k131 _ 131 ?hg (N := 49) ?hd (xs := ([] : List (S131))) (inner := []) (ok := fun _ => True) (okp := fun _ => True) ?hr ?hp (fun _ hk => hk) trivial (Below.refl _ _) (Nat.le_refl _) (by simp) ?_; (case hd => rfl); (case hg => rfl); (case hr => first | (go_simp; done) | (go_simp; rfl)); (case hp => exact (Reps.none _ _))
        intro v1437 w75 ho76 hb hg_ hnew_
        clear hg_ hnew_
        (first | rw [← Ny1436.out] at ho76 | (simp only [Int.reduceToNat] at ho76; rw [← Ny1436.out] at ho76))
        have n0_ := zA (Kd.S_elder' (by (with_reducible repeat (first | apply yE | apply yF | apply yG)); exact HO_4.out) (Kd.S_base ho76) hb)
        have n1_ := zA (Kd.R_below (by (with_reducible repeat (first | apply zN | apply zM | apply zO)); exact HO1422.out) hb)
        have n2_ := zA (Kd.S_lower (Kd.S_newB (Kd.S_new' (Kd.S_new' ho76 (Kd.S_lt (by (with_reducible repeat (first | apply yE | apply yF | apply yG)); exact HO_4.out))) (Kd.R_lt (by (with_reducible repeat (first | apply zN | apply zM | apply zO)); exact HO1422.out))) (g := gb1427) (o := .cells #[.int .i64 t1419, .slice Ao70 t1420.length co70] 131 (0, 0)) (by (with_reducible repeat (first | refine zG ?_ _ | refine zH ?_ | refine zD ?_ _)); exact BK1427.out)) (zL (by repeat (first | (with_reducible first | exact HB.out | apply zC | apply zB | apply zF | refine zE ?_ GE1413.out | refine zE ?_ GE1427.out | refine zE ?_ GE1428.out) | exact HB.out))))
        have n3_ := zA (blk_below (g := gb1413) (o := .cells #[.int .i64 x1414000_2, .int .i64 x1414001_2] 65 (0, 0)) (by (with_reducible repeat (first | refine zG ?_ _ | refine zH ?_ | refine zD ?_ _)); exact BK1413.out) hb)
        have n4_ := zA (blk_below (g := gb1427) (o := .cells #[.int .i64 t1419, .slice Ao70 t1420.length co70] 131 (0, 0)) (by (with_reducible repeat (first | refine zG ?_ _ | refine zH ?_ | refine zD ?_ _)); exact BK1427.out) hb)
        have n5_ := zA (blk_below (g := gb1428) (o := .cells #[.int .i64 t1424, .int .i64 t1425] 65 (0, 0)) (by (with_reducible repeat (first | refine zG ?_ _ | refine zH ?_ | refine zD ?_ _)); exact BK1428.out) hb)
        have n6_ := zA (below_step (by repeat (first | (with_reducible first | exact HB.out | apply zC | apply zB | apply zF | refine zE ?_ GE1413.out | refine zE ?_ GE1427.out | refine zE ?_ GE1428.out) | exact HB.out)) hb)
        clear HO_4
        clear HO1422
        clear BK1413
        clear BK1427
        clear BK1428
        clear HB
        have HO_4 := n0_
        have HO1422 := n1_
        have HO1438 := n2_
        have BK1413 := n3_
        have BK1427 := n4_
        have BK1428 := n5_
        have HB := n6_
        clear n0_ n1_ n2_ n3_ n4_ n5_ n6_
        clear hb ho76
        refine hK.out _ _ ⟨(zK BK1428.out 0).trans rfl, (zK BK1428.out 1).trans rfl⟩ (fun hHeld => ?_)
        clear hK K
        refine norm_ (a' := ?_) ?_ ?_
        rotate_left
        ·show Act.put _ (some 49) _ = _
         simp only [Act.put, List.setIfInBounds_toArray, List.set_cons_zero, List.set_cons_succ, i64_w, i32_w]
         rfl
        refine pure_ (i := 2) (N := some 2) (v := ?_) (a' := ?_) #[true, true, true, false] rfl rfl (by kernel_rfl) (fun _ _ _ h => h) (Or.inl ⟨by rfl, ?_⟩) ?_ ?_
        rotate_left
        ·intro w'
         go_simp
         with_reducible rfl
        rotate_left
        ·simp only [Act.put, List.setIfInBounds_toArray, List.set_cons_zero, List.set_cons_succ, i64_w, i32_w]
         rfl
        refine one_ (i := 3) (N := none) #[true, true, true, true] rfl rfl (by kernel_rfl) (by decide) (fun K hK => ?_)
        have hs77 : w75.cell? ⟨gb1413, 0, none⟩ = some (.int .i64 x1414000_2) := (zK BK1413.out 0).trans rfl
        have hfs77 := zJ BK1413.out 0
        have hns77_1 := NB1427_1413.out
        have hns77_2 := NB1428_1413.out
        have hms77_1 := NB1413_1427.out
        have hms77_2 := NB1413_1428.out
        have hs78 : w75.cell? ⟨gb1413, 1, none⟩ = some (.int .i64 x1414001_2) := (zK BK1413.out 1).trans rfl
        have hfs78 := zJ BK1413.out 1
        have hns78_1 := NB1427_1413.out
        have hns78_2 := NB1428_1413.out
        have hms78_1 := NB1413_1427.out
        have hms78_2 := NB1413_1428.out
        refine skip_ (w1 := ?_) (by rfl) rfl ?_ ?_
        rotate_left
        ·go_simp
         rfl
        refine hK.out _ _ ⟨((cell_far (p := ⟨gb1413, _, none⟩) NB1428_1413.out _).trans (((cell_far (p := ⟨gb1413, _, none⟩) NB1428_1413.out _).trans (hHeld.1)))), ((cell_far (p := ⟨gb1413, _, none⟩) NB1428_1413.out _).trans (((cell_far (p := ⟨gb1413, _, none⟩) NB1428_1413.out _).trans (hHeld.2))))⟩ (fun hHeld => ?_)
        clear hK K
        refine done_ (by kernel_rfl) ?_
        try go_wp2
        refine bodyPost_ret (results_tc rfl _ _ gb1413 65 #[.int .i64 t1424, .int .i64 t1425] (0, 0) _ rfl (by (with_reducible repeat (first | refine zG ?_ _ | refine zH ?_ | refine zD ?_ _)); refine blk_put (cs := #[.int .i64 t1424, .int .i64 x1414001_2]) ?_ 1 _ rfl; (with_reducible repeat (first | refine zG ?_ _ | refine zH ?_ | refine zD ?_ _)); refine blk_put (cs := #[.int .i64 x1414000_2, .int .i64 x1414001_2]) ?_ 0 _ rfl; (with_reducible repeat (first | refine zG ?_ _ | refine zH ?_ | refine zD ?_ _)); exact BK1413.out) Try.underlying65 rfl (by kernel_rfl)) rfl ?_
        exact ⟨_, by first | rfl | (simp [errW_none, errW_some] <;> rfl) | (simp [*, errW_none, errW_some] <;> rfl), by (with_reducible repeat (first | apply yE | apply yF | apply yG)); exact yH (yI (p := ⟨gb1413, 1, none⟩) (yI (p := ⟨gb1413, 0, none⟩) (Kd.S_types HO1438.out BK1413.out (by decide)) (fun _ hk => hk.2) (.int .i64 t1424)) (fun _ hk => hk.2) (.int .i64 t1425)) (fun _ hk => trivial), by repeat (first | (with_reducible first | exact HB.out | apply zC | apply zB | apply zF | refine zE ?_ GE1413.out | refine zE ?_ GE1427.out | refine zE ?_ GE1428.out) | exact HB.out)⟩
theorem readSegs_loop (b : List Int) (hb : ∀ x ∈ b, 0 ≤ x ∧ x ≤ 255) (hlen : b.length ≤ 60000) : ∀ (n at_ : Nat) (l : List S131), at_ ≤ b.length → l.length ≤ 300 → MarksOk l → b.length < at_ + n →
  Ev (fun k => spec_ReadSegs.l0 k b l (at_ : Int) (kindL l)) (rdI b n at_ l) := by
 intro n
 induction n with
 | zero => intro at_ l h1 _ _ h4; omega
 | succ n ih =>
  intro at_ l hat hl hM hfu
  obtain ⟨f1, f2, f3⟩ := nxt_facts b at_ l hat hl
  refine Ev.step (fun _ => by rw [spec_ReadSegs.l0]) (Ev.bind (next_spec b at_ l hat hlen hb hM) ?_)
  rcases nxt_shape b at_ l hl hb with ⟨c, p, hn, hc⟩ | hn | ⟨m, d, n2, hn, hm0, hm1, hl3, hend⟩
  ·have eS : nxtS b at_ l = (0, [], (at_ : Int), c, p, false) := by unfold nxtS; rw [hn]; exact if_pos hc
   have eR : rdI b (n + 1) at_ l = ([], c, p) := by unfold rdI; rw [hn]; exact if_pos hc
   rw [eS, eR]
   exact Ev.ng hc (Ev.now _)
  ·have eS : nxtS b at_ l = (0, [], ((at_ + 2 : Nat) : Int), 0, 0, true) := by unfold nxtS; rw [hn]; exact (if_neg (fun h => h rfl)).trans (if_pos rfl)
   have eR : rdI b (n + 1) at_ l = if at_ + 2 < b.length then ([], 7, ((at_ + 2 : Nat) : Int)) else (l, 0, 0) := by unfold rdI; rw [hn]; exact (if_neg (fun h => h rfl)).trans (if_pos rfl)
   rw [eS, eR]
   refine Ev.ip rfl (Ev.ip rfl ?_)
   by_cases hlt : at_ + 2 < b.length
   ·rw [if_pos hlt]
    exact Ev.ip (by show ((at_ + 2 : Nat) : Int) < b.length; omega) (Ev.now _)
   ·rw [if_neg hlt]
    exact Ev.ng (by show ¬ ((at_ + 2 : Nat) : Int) < b.length; omega) (Ev.now _)
  ·have eS : nxtS b at_ l = (m, d, (n2 : Int), 0, 0, false) := by
    unfold nxtS
    rw [hn]
    exact (if_neg (fun h => h rfl)).trans ((if_neg Bool.false_ne_true).trans (by simp))
   have eR : rdI b (n + 1) at_ l = rdI b n n2 (l ++ [⟨m, d⟩]) := by
    conv => lhs; unfold rdI
    rw [hn]
    exact (if_neg (fun h => h rfl)).trans (if_neg Bool.false_ne_true)
   rw [hn] at f1 f2 f3
   simp only [] at f1 f2 f3
   have f4 := f3 trivial trivial
   rw [eS, eR]
   have hsn := kindL_snoc l ⟨m, d⟩
   have hMs := marks_snoc hM m d hm0 hm1
   refine Ev.ip rfl (Ev.ng (show ¬ (false = true) by decide) (Ev.ip (by omega) (Ev.bind (Ev.c (kind_val m)) ?_)))
   rw [← hsn]
   exact ih n2 _ f1 f2 hMs (by omega)
theorem spec_ReadSegs.ev (b : List Int) (hb : ∀ x ∈ b, 0 ≤ x ∧ x ≤ 255) (hlen : b.length ≤ 1048576) : Ev (fun k => spec_ReadSegs.f k b) (readSM b) := by
 unfold spec_ReadSegs.f readSM
 refine Ev.bind (Ev.c rfl) ?_
 by_cases h1 : 60000 < b.length
 ·rw [if_pos h1]; exact Ev.ip (by omega) (Ev.now _)
 rw [if_neg h1]
 refine Ev.ng (by omega) ?_
 by_cases h2 : b.length < 2
 ·rw [if_pos (.inl h2)]
  exact Ev.ip (by omega) (Ev.step (fun _ => by rw [spec_ReadSegs.j0]) (Ev.ip rfl (Ev.now _)))
 refine Ev.ng (by omega) (Ev.ip (by omega) ?_)
 by_cases h84 : rd b 0 = 84
 ·refine Ev.ip h84 (Ev.ip (by omega) (Ev.step (fun _ => by rw [spec_ReadSegs.j0]) ?_))
  by_cases h83 : rd b 1 = 83
  ·rw [if_neg (by rw [h84, h83]; simp; omega)]
   refine Ev.ng (by rw [h83]; decide) ?_
   exact readSegs_loop b hb (by omega) (b.length + 1) 2 [] (by omega) (by simp) (fun s hs => by simp at hs) (by omega)
  ·rw [if_pos (.inr (.inr h83))]
   exact Ev.ip (by simp [h83]) (Ev.now _)
 ·rw [if_pos (.inr (.inl h84))]
  exact Ev.ng h84 (Ev.step (fun _ => by rw [spec_ReadSegs.j0]) (Ev.ip rfl (Ev.now _)))
end Go.Proofs.Ytcjjmfpkhhdmlaa.G

