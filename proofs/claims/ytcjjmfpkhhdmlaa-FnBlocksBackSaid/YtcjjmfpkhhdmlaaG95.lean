-- Written by gp.py (a program of this session's, over the kit's print). Not trusted: Lean checks it.
import Derived.Test.YtcjjmfpkhhdmlaaG0h
namespace Go.Proofs.Ytcjjmfpkhhdmlaa.G
open Go.RowKit Go.Proofs.YtcjjmfpkhhdmlaaW.PrintWords Go.Proofs.YtcjjmfpkhhdmlaaW.PrintLast Go.Proofs.YtcjjmfpkhhdmlaaW.PrintMore
attribute [local go_sem] max2_int min2_int max_two min_two max_three min_three max_four min_four   -- for this text's walks alone
set_option linter.unusedVariables false
set_option linter.unusedSimpArgs false

/-! ### impl_plane: function 95 -/
/-- what a sample function tells, in any world behind w -/
def Sampled (w : World) (fn : Nat) (caps : Array Value) (W H : Nat) (g : Nat → Nat → Int) : Prop :=
  (∀ (args : Array Value) (W1 : World), Sem.run Try.prog (callFunc fn args) W1 = Result.ok (Next.enter fn args) W1) ∧
  ∀ (W1 : World) (y x : Nat), Below w.heap.size w W1 → y < H → x < W → Calls Try.prog fn (#[.int .i64 (y : Int), .int .i64 (x : Int)] ++ caps) W1 fun e w' => e = .returned (.int .i64 (g y x)) ∧ Drawn0 W1 w'
/-- a row of samples, and all rows -/
def rowM (W : Nat) (g : Nat → Nat → Int) (y : Nat) : List Int := (List.range W).map fun x => g y x
def planeM (W H : Nat) (g : Nat → Nat → Int) : List Int := (List.range H).flatMap (rowM W g)
theorem planeM_succ (W H : Nat) (g : Nat → Nat → Int) : planeM W (H + 1) g = planeM W H g ++ rowM W g H := by simp [planeM, List.range_succ]
theorem rowM_succ (W : Nat) (g : Nat → Nat → Int) (y : Nat) : rowM (W + 1) g y = rowM W g y ++ [g y W] := by simp [rowM, List.range_succ]
theorem rowM_len (W : Nat) (g : Nat → Nat → Int) (y : Nat) : (rowM W g y).length = W := by simp [rowM]
theorem planeM_len (W H : Nat) (g : Nat → Nat → Int) : (planeM W H g).length = H * W := by
  induction H with
  | zero => simp [planeM]
  | succ H ih => rw [planeM_succ, List.length_append, ih, rowM_len, Nat.succ_mul]
def PlRel (w : World) (W H : Nat) (g : Nat → Nat → Int) (v7 v12 : Value) (w' : World) : Prop :=
  ∃ y : Nat, v12 = .int .i64 y ∧ y ≤ H ∧ Aside0 (Kd.R (Kd.int .i64) 3 w' w.heap.size (fun _ => True) v7 (planeM W y g)) ∧ Aside0 (Below w.heap.size w w')
def RowRel (w : World) (W : Nat) (g : Nat → Nat → Int) (y : Nat) (v7 v16 : Value) (w' : World) : Prop :=
  ∃ x : Nat, v16 = .int .i64 x ∧ x ≤ W ∧ Aside0 (Kd.R (Kd.int .i64) 3 w' w.heap.size (fun _ => True) v7 (planeM W y g ++ rowM x g y)) ∧ Aside0 (Below w.heap.size w w')
set_option maxRecDepth 100000 in
set_option maxHeartbeats 4000000 in
theorem impl_plane.calls (fn : Nat) (caps : Array Value) (W H : Nat) (g : Nat → Nat → Int) (w : World) (hW : W ≤ 100000) (hH : H ≤ 100000) (h : Sampled w fn caps W H g) :
    Calls Try.prog 95 #[.int .i64 (W : Int), .int .i64 (H : Int), .func (.func fn) #[] caps] w fun e w' => ∃ v0_ : Value, e = .returned (v0_) ∧ Kd.R (Kd.int .i64) 3 w' w.heap.size (fun _ => True) v0_ (planeM W H g) ∧ Below w.heap.size w w' := by
  have HS := Aside0.mk h
  clear h
  go_enter Try.func95, Try.ntmps95
  go_wp2_with (first | ((with_reducible refine gate_dst (N := 10) rfl ?_); refine Kd.R_lit (w0 := w) (Kd.int .i64) w.heap.size 3 ?hg (N := 10) ?hd (xs := ([] : List Int)) (inner := []) (ok := fun _ => True) (okp := fun _ => True) ?hr ?hp (fun _ hk => hk) trivial (Below.refl _ _) (Nat.le_refl _) (by simp) ?_; (case hd => rfl); (case hg => rfl); (case hr => first | (go_simp; done) | (go_simp; rfl)); (case hp => exact (Reps.none _ _)); intro v7 w1 ho hb hg_ hnew_; obtain ⟨A7, c7, e7⟩ := Kd.R_slice ho; subst e7; have HO := Aside0.mk ho; have HB := Aside0.mk hb; clear ho hb hg_ hnew_))
  go_loopw [7, 12] (fun v7 v12 w' => PlRel w W H g v7 v12 w') (fun v7 v12 w' => H - (intOf v12).toNat)
  case atStart => exact ⟨0, rfl, Nat.zero_le _, ⟨HO.out⟩, HB⟩
  case round =>
    clear HO HB
    obtain ⟨y, rfl, hy, HO, HB⟩ := hrel
    by_cases hlt : y < H
    · obtain ⟨A7, c7, e7⟩ := Kd.R_slice HO.out
      subst e7
      go_wp2
      go_loopw [7, 16] (fun v7 v16 w' => RowRel w W g y v7 v16 w') (fun v7 v16 w' => W - (intOf v16).toNat)
      case atStart => exact ⟨0, rfl, Nat.zero_le _, ⟨by have := HO.out; simpa [rowM] using this⟩, HB⟩
      case round =>
        clear HO HB
        obtain ⟨x, rfl, hx, HO, HB⟩ := hrel
        by_cases hlx : x < W
        · have hlen := rowM_len x g y
          have hlen2 := planeM_len W y g
          have hyW : y * W ≤ 100000 * 100000 := Nat.mul_le_mul (by omega) hW
          have hll : (planeM W y g ++ rowM x g y).length ≤ 10000100000 := by rw [List.length_append]; omega
          clear hlen hlen2 hyW
          obtain ⟨out, hout⟩ : ∃ o, o = planeM W y g ++ rowM x g y := ⟨_, rfl⟩
          rw [← hout] at HO hll
          have HOUT := Aside0.mk hout
          clear hout
          obtain ⟨A7, c7, e7⟩ := Kd.R_slice HO.out
          subst e7
          go_wp2_with fail
          rw [HS.out.1]
          simp only [Oper.upon_enter]
          refine (HS.out.2 wr y x HB.out hlt hlx).mono ?_
          rintro e_ w_ ⟨rfl, ⟨nd, rfl⟩⟩
          go_wp2_with (first | ((with_reducible refine gate_builtin (b := .append) (xs := #[.tmp 19, .tmp 24]) rfl ?_); at_builtin; refine Kd.R_append (Kd.int .i64) (w0 := w) w.heap.size rfl (.tmp 19) (.tmp 24) 22 3 (.int .i64 0) 8 rfl Try.underlying22 info3 rfl (by decide) (by omega) _ out (g y x) [.int .i64 (g y x)] (fun _ => True) (fun _ => False) rfl rfl rfl (fun _ hk => hk.elim) (fun _ _ => trivial) (Kd.R_drewN HO.out nd) (pw_below_drewN HB.out nd) (pw_below_drewN HB.out nd).size (by omega) ?_; intro v8 w3 ho hb hg hat; obtain ⟨A8, c8, e8⟩ := Kd.R_slice ho; subst e8; have HO2 := Aside0.mk ho; have HB2 := Aside0.mk hb; clear ho hb hg hat))
          go_roundw
          case rel => exact ⟨x + 1, by go_num, by omega, ⟨by have h9 := HO2.out; rw [show (out ++ [g y x]).length = out.length + 1 by simp] at h9; rw [rowM_succ, ← List.append_assoc, ← HOUT.out]; exact h9⟩, HB2⟩
          case measure => simp [intOf]; omega
        · obtain rfl : x = W := by omega
          rw [← planeM_succ] at HO
          obtain ⟨A7, c7, e7⟩ := Kd.R_slice HO.out
          subst e7
          go_wp2
          go_roundw
          case rel => exact ⟨y + 1, by go_num, by omega, HO, HB⟩
          case measure => simp [intOf]; omega
    · obtain rfl : y = H := by omega
      obtain ⟨A7, c7, e7⟩ := Kd.R_slice HO.out
      subst e7
      go_wp2
      go_ret
      exact ⟨_, rfl, HO.out, HB.out⟩
theorem impl_plane.calls' (fn : Nat) (caps : Array Value) (W H : Nat) (g : Nat → Nat → Int) (w : World) (a b : Int) (ha : (W : Int) = a) (hb : (H : Int) = b) (hW : W ≤ 100000) (hH : H ≤ 100000) (h : Sampled w fn caps W H g) :
    Calls Try.prog 95 #[.int .i64 a, .int .i64 b, .func (.func fn) #[] caps] w fun e w' => ∃ v0_ : Value, e = .returned (v0_) ∧ Kd.R (Kd.int .i64) 3 w' w.heap.size (fun _ => True) v0_ (planeM W H g) ∧ Below w.heap.size w w' := by
  subst ha hb
  exact impl_plane.calls fn caps W H g w hW hH h

end Go.Proofs.Ytcjjmfpkhhdmlaa.G
