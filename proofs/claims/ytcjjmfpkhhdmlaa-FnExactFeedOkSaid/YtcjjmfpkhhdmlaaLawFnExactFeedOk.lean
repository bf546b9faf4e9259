-- Written by gp.py (a program of this session's, over the kit's print). Not trusted: Lean checks it.
import Derived.Test.YtcjjmfpkhhdmlaaRows
import Derived.Test.YtcjjmfpkhhdmlaaPureFnExactFeedOk
import Derived.Test.YtcjjmfpkhhdmlaaGOpen
import Derived.WalkKit
import Derived.ProofKit
import Derived.OpenShut
import Derived.ShutString
import Derived.ChangeOld
import Derived.Below
import Derived.SizedLaws
import Derived.ChangeSame
namespace Go.Proofs.Ytcjjmfpkhhdmlaa.fnExactFeedOk
open Go.ChangeShapes Go.WideShapes Go.ChangeAt Go.RowKit Go.Proofs.Ytcjjmfpkhhdmlaa.G Go.Proofs.YtcjjmfpkhhdmlaaW.PrintWords
open Go.ChangeMaps (open_string shut_string)
set_option linter.unusedVariables false
theorem own : ownKnob Try.prog.godebug = none := by kernel_rfl
theorem laidOut : laidOutB Try.prog = true := by kernel_rfl
set_option maxRecDepth 100000 in
theorem open_fault {H : Type} {enc : TypeId × Value → H} {w : World} {base fuel : Nat} {cs : List Value} {x : DataW H × List MemPlace} (h : DataW.trod enc Try.prog w base (fun _ => true) true fuel 71 cs = some x) : ∃ a b : Int, cs = [.int .i64 a, .int .i64 b] := by
  obtain ⟨xs, n, _, _, hl, hlen, hf⟩ := DataW.trod_struct Try.underlying71 h
  have e : Try.prog.cellsOf 71 = 2 := by kernel_rfl
  have e3 : Try.prog.cellsOf 3 = 1 := by kernel_rfl
  rw [e] at hl
  have hlen : xs.length = 2 := hlen
  match cs, hl, xs, hlen with
  | [c0, c1], _, [y0, y1], _ =>
    have h0 : DataW.trod enc Try.prog w base (fun _ => true) true n 3 (([c0, c1].drop 0).take (Try.prog.cellsOf 3)) = some y0 := hf 0 _ rfl
    have h1 : DataW.trod enc Try.prog w base (fun _ => true) true n 3 (([c0, c1].drop 1).take (Try.prog.cellsOf 3)) = some y1 := hf 1 _ rfl
    rw [e3] at h0 h1
    obtain ⟨a, ha, _⟩ := (opens_int e3 Try.underlying3).2 (x := y0) h0
    obtain ⟨b, hb, _⟩ := (opens_int e3 Try.underlying3).2 (x := y1) h1
    have ha' : [c0] = [Value.int .i64 a] := ha
    have hb' : [c1] = [Value.int .i64 b] := hb
    injection ha' with ha' _
    injection hb' with hb' _
    exact ⟨a, b, by rw [ha', hb']⟩
set_option maxRecDepth 100000 in
theorem open_feed {H : Type} {enc : TypeId × Value → H} {w : World} {base fuel : Nat} {cs : List Value} {x : DataW H × List MemPlace} (h : DataW.trod enc Try.prog w base (fun _ => true) true fuel 73 cs = some x) :
    ∃ (A : Option Addr) (c : Nat) (l : List Int) (n : Int) (o : Bool) (fc fa : Int), cs = [.slice A l.length c, .int .i64 n, .bool o, .int .i64 fc, .int .i64 fa] ∧ l.length ≤ c ∧ Kd.C (Kd.int .u8) w A l.length l ∧ (l.length ≤ 9223372036854775807 ∧ ∀ x ∈ l, (Lit.int .u8 x).wf = true) := by
  obtain ⟨xs, n, _, _, hl, hlen, hf⟩ := DataW.trod_struct Try.underlying73 h
  have e : Try.prog.cellsOf 73 = 5 := by kernel_rfl
  have e3 : Try.prog.cellsOf 3 = 1 := by kernel_rfl
  have e4 : Try.prog.cellsOf 4 = 1 := by kernel_rfl
  have e23 : Try.prog.cellsOf 23 = 1 := by kernel_rfl
  have e71 : Try.prog.cellsOf 71 = 2 := by kernel_rfl
  rw [e] at hl
  have hlen : xs.length = 4 := hlen
  match cs, hl, xs, hlen with
  | [c0, c1, c2, c3, c4], _, [y0, y1, y2, y3], _ =>
    have h0 : DataW.trod enc Try.prog w base (fun _ => true) true n 23 (([c0, c1, c2, c3, c4].drop 0).take (Try.prog.cellsOf 23)) = some y0 := hf 0 _ rfl
    have h1 : DataW.trod enc Try.prog w base (fun _ => true) true n 3 (([c0, c1, c2, c3, c4].drop 1).take (Try.prog.cellsOf 3)) = some y1 := hf 1 _ rfl
    have h2 : DataW.trod enc Try.prog w base (fun _ => true) true n 4 (([c0, c1, c2, c3, c4].drop 2).take (Try.prog.cellsOf 4)) = some y2 := hf 2 _ rfl
    have h3 : DataW.trod enc Try.prog w base (fun _ => true) true n 71 (([c0, c1, c2, c3, c4].drop 3).take (Try.prog.cellsOf 71)) = some y3 := hf 3 _ rfl
    rw [e23] at h0
    rw [e3] at h1
    rw [e4] at h2
    rw [e71] at h3
    obtain ⟨l, ⟨A, c, hA, hlc, hC⟩, hw⟩ := (opens_slice e23 Try.underlying23 (opens_int (by kernel_rfl) Try.underlying5)).2 (x := y0) h0
    obtain ⟨n1, hn1, _⟩ := (opens_int e3 Try.underlying3).2 (x := y1) h1
    obtain ⟨o, ho, _⟩ := (opens_bool e4 Try.underlying4).2 (x := y2) h2
    obtain ⟨fc, fa, hff⟩ := open_fault (x := y3) h3
    have hA' : [c0] = [Value.slice A l.length c] := hA
    have hn' : [c1] = [Value.int .i64 n1] := hn1
    have ho' : [c2] = [Value.bool o] := ho
    have hf' : [c3, c4] = [Value.int .i64 fc, Value.int .i64 fa] := hff
    injection hA' with hA' _
    injection hn' with hn' _
    injection ho' with ho' _
    injection hf' with hf1 hf2
    injection hf2 with hf2 _
    exact ⟨A, c, l, n1, o, fc, fa, by rw [hA', hn', ho', hf1, hf2], hlc, hC, hw⟩
set_option maxRecDepth 100000 in
theorem lifted (os : Os) (started : os.Started) (H : Type) (enc : TypeId × Value → H) :
    ReturnsInHanded {} Try.checked os 12 .any (Rows.fnExactFeedOkSpec.pre6 enc Try.prog Try.f12 Rows.fnExactFeedOkRow.domain false) (Rows.fnExactFeedOkSpec.post enc Try.prog Try.f12 false true false false) := by
  refine returnsInHanded_of_change_sized (C := Try.checked) own started (by kernel_rfl) Try.func12
    (ChangeSpec.witness6 (enc := enc) (C := Try.checked) false ⟨#[], #[.agg #[.slice none 0 0, .int .i64 0, .bool false, .int .i64 0, .int .i64 0]], []⟩ 8 (by kernel_rfl) (by kernel_rfl) (by kernel_rfl) (by kernel_rfl)) ?_
  intro W base args ds gs before hval0 hW hcnd hsz0 _
  have hval : ∀ (j : Nat) t v, Try.f12.params[j]? = some t → args[j]? = some v → Value.okWide Try.prog W .any base t v := hval0
  have hW' := hW
  obtain ⟨p, q, hA0, hV, rfl, hfz, hnd⟩ := hW
  have hA : DataW.TrodAll enc Try.prog W 0 (fun _ => true) true Try.f12.params.toList args.toList ds p := hA0
  rw [Try.params12] at hA hval
  obtain ⟨v0, vs0, d0, ds0, p0, q0, hargs, rfl, rfl, h0, r0⟩ := trodAll_cons hA
  obtain ⟨rfl, rfl, rfl⟩ := trodAll_nil r0
  obtain rfl : args = #[v0] := by cases args; simp_all
  obtain ⟨rfl, rfl⟩ := trodVars_none hV
  obtain ⟨cs0, rfl, hcs0⟩ := okWide_struct Try.underlying73 (hval 0 73 v0 rfl rfl)
  have k0 := h0
  have lt0 : ∀ x ∈ p0, x.block < W.heap.size := by obtain ⟨m, hm⟩ := k0; exact DataW.trod_lt m _ _ _ hm
  obtain ⟨fuel0, hf0⟩ := h0
  obtain ⟨A, c, l, n, o, fc, fa, hcs, hl, hC, hw⟩ := open_feed hf0
  have hcs2 : cs0 = #[.slice A l.length c, .int .i64 n, .bool o, .int .i64 fc, .int .i64 fa] := by
    have : cs0.toList = [.slice A l.length c, .int .i64 n, .bool o, .int .i64 fc, .int .i64 fa] := hcs
    cases cs0; simp_all
  subst hcs2
  clear hA0 hval0 hsz0
  obtain ⟨k, hk⟩ := PureFnExactFeedOk l n o fc fa hw
  refine (laws_FnExactFeedOk.calls k A c l n o fc fa true W hC hl hk).mono fun e W' ⟨he, bel0⟩ => ?_
  have bel : Below W.heap.size W W' := bel0
  subst he
  exact ⟨_, rfl, _, _, _, [], _, [], hW', trodAll_mk1 (shut_bool Try.underlying4 _), (trodAll_cons_mk (Below.trod laidOut (by kernel_rfl) (of_decide_eq_true (by kernel_rfl)) k0 bel lt0) trodAll_mk0), rfl, bel.frame _, fun h => by cases h⟩
theorem over : Rows.fnExactFeedOkRow.holds Try.pinned (OpenSpec.ofChange Rows.fnExactFeedOkSpec) :=
  OpenClaim.holds_of_wide 12 Try.f12 rfl rfl rfl rfl rfl rfl rfl ⟨rfl, rfl, rfl, rfl, rfl⟩ rfl rfl rfl rfl rfl (by kernel_rfl) Try.func12 (by kernel_rfl)
    (of_decide_eq_true (by kernel_rfl)) (by unfold Func.isWrapper; first | (rw [if_pos (by decide +kernel)]; kernel_rfl) | (rw [if_neg (by decide +kernel)]; exact ⟨rfl, rfl⟩))
    (fun os started H enc _ => lifted os started H enc)
theorem proved : Rows.FnExactFeedOkSaid := over
#print axioms proved
end Go.Proofs.Ytcjjmfpkhhdmlaa.fnExactFeedOk
namespace Go.Proofs.Ytcjjmfpkhhdmlaa
/-- The row, under a short name, for the claim. -/
theorem fnExactFeedOk_holds : Rows.FnExactFeedOkSaid := fnExactFeedOk.proved
end Go.Proofs.Ytcjjmfpkhhdmlaa
