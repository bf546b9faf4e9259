/-
  No cell of these rows narrows 'for every input' (looked for: loops, veiled, ifaces, maps, wideKeys, modest, calm, conditions, laid).
  DERIVED. THE GIVEN ROWS OF THIS SEAT. 5 by the template 'for every input the law returns true; each argument reads behind the call as it read before'; 0 by the template 'total and deterministic' (their statements: YtnknolppoeacbaaTotals.lean).
  GIVEN WITH THE SEED: the statements are not yours to turn. If you find one false, say at which input.
  Laid BY PROGRAM, IN A SANDBOX (cutbox-rows.mjs): the forced cells as the released guide's own fill.sh prints them over the translation b34fe4a899890fe1… (all of the seat's roots in one cut). By AI agents, Wed Nov 11 2026. No macro, syntax, notation, axiom, sorry.
-/
import Derived.Test.YtnknolppoeacbaaChecked
import GoSem.Claim
import GoSem.ClaimJoined
import GoSem.ClaimMapViews
import Derived.JoinedTies
import Derived.KernelRfl
namespace Go.Proofs.Ytnknolppoeacbaa
/- THE CELL 'sum', in the pinned program and in every row, IS THE sha256 OF THE DUMP (.gsa) THAT YtnknolppoeacbaaProg.lean LOADS. Nothing in Lean hashes anything: it is a label: what it is worth is what the hold of that sum in a sandbox is worth. -/
noncomputable def Try.pinned : Pinned := { name := "ytnknolppoeacbaa", sum := "b34fe4a899890fe1679ae18ef380b339af808ae5088c80dfdbbc3f132a016b41", checked := Try.checked }
namespace Rows
def none {H : Type} : Left H := { results := [], args := [] }

/-- 'laws.FnExactPixelsOk': WHATEVER THE INPUT: true; the input reads as it did. -/
def fnExactPixelsOkSpec : ChangeSpec := { name := "fnExactPixelsOk", fn := fun _ => fun
  | [d] => { results := [.lit (.bool true)], args := [d] }
  | _ => none }
def fnExactPixelsOkRow : OpenClaim := { program := "ytnknolppoeacbaa", sum := "b34fe4a899890fe1679ae18ef380b339af808ae5088c80dfdbbc3f132a016b41", func := "loop.example/g00139/laws.FnExactPixelsOk", spec := "fnExactPixelsOk", unfollowed := true, recurses := true, apart := false }
def FnExactPixelsOkSaid : Prop := fnExactPixelsOkRow.holds Try.pinned (OpenSpec.ofChange fnExactPixelsOkSpec)

/-- ITS FALSE NEIGHBOUR: 'it returns false'. Refute it at one input. -/
def fnExactPixelsOkWrong : ChangeSpec := { name := "fnExactPixelsOk", fn := fun _ => fun
  | [d] => { results := [.lit (.bool false)], args := [d] }
  | _ => none }
def FnExactPixelsOkWrongFalsely : Prop := fnExactPixelsOkRow.holds Try.pinned (OpenSpec.ofChange fnExactPixelsOkWrong)

/-- 'laws.FnExactUnpackBits': WHATEVER THE INPUT: true; the input reads as it did. -/
def fnExactUnpackBitsSpec : ChangeSpec := { name := "fnExactUnpackBits", fn := fun _ => fun
  | [d1, d2] => { results := [.lit (.bool true)], args := [d1, d2] }
  | _ => none }
def fnExactUnpackBitsRow : OpenClaim := { program := "ytnknolppoeacbaa", sum := "b34fe4a899890fe1679ae18ef380b339af808ae5088c80dfdbbc3f132a016b41", func := "loop.example/g00139/laws.FnExactUnpackBits", spec := "fnExactUnpackBits", apart := false }
def FnExactUnpackBitsSaid : Prop := fnExactUnpackBitsRow.holds Try.pinned (OpenSpec.ofChange fnExactUnpackBitsSpec)

/-- ITS FALSE NEIGHBOUR: 'it returns false'. Refute it at one input. -/
def fnExactUnpackBitsWrong : ChangeSpec := { name := "fnExactUnpackBits", fn := fun _ => fun
  | [d1, d2] => { results := [.lit (.bool false)], args := [d1, d2] }
  | _ => none }
def FnExactUnpackBitsWrongFalsely : Prop := fnExactUnpackBitsRow.holds Try.pinned (OpenSpec.ofChange fnExactUnpackBitsWrong)

/-- 'laws.FnExactNearest': WHATEVER THE INPUT: true; the input reads as it did. -/
def fnExactNearestSpec : ChangeSpec := { name := "fnExactNearest", fn := fun _ => fun
  | [d1, d2] => { results := [.lit (.bool true)], args := [d1, d2] }
  | _ => none }
def fnExactNearestRow : OpenClaim := { program := "ytnknolppoeacbaa", sum := "b34fe4a899890fe1679ae18ef380b339af808ae5088c80dfdbbc3f132a016b41", func := "loop.example/g00139/laws.FnExactNearest", spec := "fnExactNearest", unfollowed := true, recurses := true, apart := false }
def FnExactNearestSaid : Prop := fnExactNearestRow.holds Try.pinned (OpenSpec.ofChange fnExactNearestSpec)

/-- ITS FALSE NEIGHBOUR: 'it returns false'. Refute it at one input. -/
def fnExactNearestWrong : ChangeSpec := { name := "fnExactNearest", fn := fun _ => fun
  | [d1, d2] => { results := [.lit (.bool false)], args := [d1, d2] }
  | _ => none }
def FnExactNearestWrongFalsely : Prop := fnExactNearestRow.holds Try.pinned (OpenSpec.ofChange fnExactNearestWrong)

/-- 'laws.FnBitsBack': WHATEVER THE INPUT: true; the input reads as it did. -/
def fnBitsBackSpec : ChangeSpec := { name := "fnBitsBack", fn := fun _ => fun
  | [d] => { results := [.lit (.bool true)], args := [d] }
  | _ => none }
def fnBitsBackRow : OpenClaim := { program := "ytnknolppoeacbaa", sum := "b34fe4a899890fe1679ae18ef380b339af808ae5088c80dfdbbc3f132a016b41", func := "loop.example/g00139/laws.FnBitsBack", spec := "fnBitsBack", unfollowed := true, recurses := true, apart := false }
def FnBitsBackSaid : Prop := fnBitsBackRow.holds Try.pinned (OpenSpec.ofChange fnBitsBackSpec)

/-- ITS FALSE NEIGHBOUR: 'it returns false'. Refute it at one input. -/
def fnBitsBackWrong : ChangeSpec := { name := "fnBitsBack", fn := fun _ => fun
  | [d] => { results := [.lit (.bool false)], args := [d] }
  | _ => none }
def FnBitsBackWrongFalsely : Prop := fnBitsBackRow.holds Try.pinned (OpenSpec.ofChange fnBitsBackWrong)

/-- 'laws.FnExactMapTo': WHATEVER THE INPUT: true; the input reads as it did. -/
def fnExactMapToSpec : ChangeSpec := { name := "fnExactMapTo", fn := fun _ => fun
  | [d1, d2] => { results := [.lit (.bool true)], args := [d1, d2] }
  | _ => none }
def fnExactMapToRow : OpenClaim := { program := "ytnknolppoeacbaa", sum := "b34fe4a899890fe1679ae18ef380b339af808ae5088c80dfdbbc3f132a016b41", func := "loop.example/g00139/laws.FnExactMapTo", spec := "fnExactMapTo", unfollowed := true, recurses := true, apart := false }
def FnExactMapToSaid : Prop := fnExactMapToRow.holds Try.pinned (OpenSpec.ofChange fnExactMapToSpec)

/-- ITS FALSE NEIGHBOUR: 'it returns false'. Refute it at one input. -/
def fnExactMapToWrong : ChangeSpec := { name := "fnExactMapTo", fn := fun _ => fun
  | [d1, d2] => { results := [.lit (.bool false)], args := [d1, d2] }
  | _ => none }
def FnExactMapToWrongFalsely : Prop := fnExactMapToRow.holds Try.pinned (OpenSpec.ofChange fnExactMapToWrong)

/- THE SECOND FORM. 'bulk': how many values and letters a reading holds, each counted each time it is reached (what is shared counts as often as it is met; a slice's spare places count too). A statement '..UptoSaid' is the law's where the arguments, and the package variables that the reading takes, are together of bulk at most 1048576: NARROWER than '..Said'. Prove '..Said' where nothing that the law and all that it calls make is longer than what came in: it says more and counts as full. Else prove '..UptoSaid'. A law counts once. -/
mutual
def uptoBulk {H : Type} : DataW H → Nat
  | .lit (.string bytes) => bytes.length + 1
  | .lit _ => 1
  | .nil => 1
  | .ptr d => uptoBulk d + 1
  | .slice elems spare => uptoBulkAll elems + uptoBulkAll spare + 1
  | .agg parts => uptoBulkAll parts + 1
  | .iface _ d => uptoBulk d + 1
  | .map entries => uptoBulkEntries entries + 1
  | .held _ => 1
def uptoBulkAll {H : Type} : List (DataW H) → Nat
  | [] => 0
  | d :: r => uptoBulk d + uptoBulkAll r
def uptoBulkEntries {H : Type} : List (Lit × DataW H) → Nat
  | [] => 0
  | x :: r => uptoBulkEntry x + uptoBulkEntries r
def uptoBulkEntry {H : Type} : Lit × DataW H → Nat
  | (.string bytes, d) => bytes.length + uptoBulk d + 1
  | (_, d) => uptoBulk d + 1
 end
def uptoSmall : (H : Type) → List (DataW H) → Bool := fun _ ds => decide (uptoBulkAll ds ≤ 1048576)
def OpenSpec.upto (s : _root_.Go.ChangeSpec) : _root_.Go.OpenSpec := { _root_.Go.OpenSpec.ofChange s with cond := some uptoSmall }

/-- 'laws.FnExactPixelsOk', WHERE WHAT IT READS IS OF BULK AT MOST 1048576: true; the input reads as it did. -/
def fnExactPixelsOkUptoRow : OpenClaim := { program := "ytnknolppoeacbaa", sum := "b34fe4a899890fe1679ae18ef380b339af808ae5088c80dfdbbc3f132a016b41", func := "loop.example/g00139/laws.FnExactPixelsOk", spec := "fnExactPixelsOk", unfollowed := true, recurses := true, apart := false, narrowed := true }
def FnExactPixelsOkUptoSaid : Prop := fnExactPixelsOkUptoRow.holds Try.pinned (OpenSpec.upto fnExactPixelsOkSpec)

/-- 'laws.FnExactUnpackBits', WHERE WHAT IT READS IS OF BULK AT MOST 1048576: true; the input reads as it did. -/
def fnExactUnpackBitsUptoRow : OpenClaim := { program := "ytnknolppoeacbaa", sum := "b34fe4a899890fe1679ae18ef380b339af808ae5088c80dfdbbc3f132a016b41", func := "loop.example/g00139/laws.FnExactUnpackBits", spec := "fnExactUnpackBits", apart := false, narrowed := true }
def FnExactUnpackBitsUptoSaid : Prop := fnExactUnpackBitsUptoRow.holds Try.pinned (OpenSpec.upto fnExactUnpackBitsSpec)

/-- 'laws.FnExactNearest', WHERE WHAT IT READS IS OF BULK AT MOST 1048576: true; the input reads as it did. -/
def fnExactNearestUptoRow : OpenClaim := { program := "ytnknolppoeacbaa", sum := "b34fe4a899890fe1679ae18ef380b339af808ae5088c80dfdbbc3f132a016b41", func := "loop.example/g00139/laws.FnExactNearest", spec := "fnExactNearest", unfollowed := true, recurses := true, apart := false, narrowed := true }
def FnExactNearestUptoSaid : Prop := fnExactNearestUptoRow.holds Try.pinned (OpenSpec.upto fnExactNearestSpec)

/-- 'laws.FnBitsBack', WHERE WHAT IT READS IS OF BULK AT MOST 1048576: true; the input reads as it did. -/
def fnBitsBackUptoRow : OpenClaim := { program := "ytnknolppoeacbaa", sum := "b34fe4a899890fe1679ae18ef380b339af808ae5088c80dfdbbc3f132a016b41", func := "loop.example/g00139/laws.FnBitsBack", spec := "fnBitsBack", unfollowed := true, recurses := true, apart := false, narrowed := true }
def FnBitsBackUptoSaid : Prop := fnBitsBackUptoRow.holds Try.pinned (OpenSpec.upto fnBitsBackSpec)

/-- 'laws.FnExactMapTo', WHERE WHAT IT READS IS OF BULK AT MOST 1048576: true; the input reads as it did. -/
def fnExactMapToUptoRow : OpenClaim := { program := "ytnknolppoeacbaa", sum := "b34fe4a899890fe1679ae18ef380b339af808ae5088c80dfdbbc3f132a016b41", func := "loop.example/g00139/laws.FnExactMapTo", spec := "fnExactMapTo", unfollowed := true, recurses := true, apart := false, narrowed := true }
def FnExactMapToUptoSaid : Prop := fnExactMapToUptoRow.holds Try.pinned (OpenSpec.upto fnExactMapToSpec)

end Rows
end Go.Proofs.Ytnknolppoeacbaa
