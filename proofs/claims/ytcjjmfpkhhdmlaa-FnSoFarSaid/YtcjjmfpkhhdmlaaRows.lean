/-
  No cell of these rows narrows 'for every input' (looked for: loops, veiled, ifaces, maps, wideKeys, modest, calm, conditions, laid).
  DERIVED. THE GIVEN ROWS OF THIS SEAT. 12 by the template 'for every input the law returns true; each argument reads behind the call as it read before'; 0 by the template 'total and deterministic' (their statements: YtcjjmfpkhhdmlaaTotals.lean).
  GIVEN WITH THE SEED: the statements are not yours to turn. If you find one false, say at which input.
  Laid BY PROGRAM, IN A SANDBOX (cutbox-rows.mjs): the forced cells as the released guide's own fill.sh prints them over the translation da71e2c39191733b… (all of the seat's roots in one cut). By AI agents, Wed Nov 11 2026. No macro, syntax, notation, axiom, sorry.
-/
import Derived.Test.YtcjjmfpkhhdmlaaChecked
import GoSem.Claim
import GoSem.ClaimJoined
import GoSem.ClaimMapViews
import Derived.JoinedTies
import Derived.KernelRfl
namespace Go.Proofs.Ytcjjmfpkhhdmlaa
/- THE CELL 'sum', in the pinned program and in every row, IS THE sha256 OF THE DUMP (.gsa) THAT YtcjjmfpkhhdmlaaProg.lean LOADS. Nothing in Lean hashes anything: it is a label: what it is worth is what the hold of that sum in a sandbox is worth. -/
noncomputable def Try.pinned : Pinned := { name := "ytcjjmfpkhhdmlaa", sum := "da71e2c39191733b8965cf663d221f6bcc052bbcfc41a29b37b7407ca3c18649", checked := Try.checked }
namespace Rows
def none {H : Type} : Left H := { results := [], args := [] }

/-- 'laws.FnExactCodeRead': WHATEVER THE INPUT: true; the input reads as it did. -/
def fnExactCodeReadSpec : ChangeSpec := { name := "fnExactCodeRead", fn := fun _ => fun
  | [d1, d2, d3] => { results := [.lit (.bool true)], args := [d1, d2, d3] }
  | _ => none }
def fnExactCodeReadRow : OpenClaim := { program := "ytcjjmfpkhhdmlaa", sum := "da71e2c39191733b8965cf663d221f6bcc052bbcfc41a29b37b7407ca3c18649", func := "loop.example/g00139/laws.FnExactCodeRead", spec := "fnExactCodeRead", plainKeys := false, apart := false }
def FnExactCodeReadSaid : Prop := fnExactCodeReadRow.holds Try.pinned (OpenSpec.ofChange fnExactCodeReadSpec)

/-- ITS FALSE NEIGHBOUR: 'it returns false'. Refute it at one input. -/
def fnExactCodeReadWrong : ChangeSpec := { name := "fnExactCodeRead", fn := fun _ => fun
  | [d1, d2, d3] => { results := [.lit (.bool false)], args := [d1, d2, d3] }
  | _ => none }
def FnExactCodeReadWrongFalsely : Prop := fnExactCodeReadRow.holds Try.pinned (OpenSpec.ofChange fnExactCodeReadWrong)

/-- 'laws.FnBlocksBack': WHATEVER THE INPUT: true; the input reads as it did. -/
def fnBlocksBackSpec : ChangeSpec := { name := "fnBlocksBack", fn := fun _ => fun
  | [d1, d2] => { results := [.lit (.bool true)], args := [d1, d2] }
  | _ => none }
def fnBlocksBackRow : OpenClaim := { program := "ytcjjmfpkhhdmlaa", sum := "da71e2c39191733b8965cf663d221f6bcc052bbcfc41a29b37b7407ca3c18649", func := "loop.example/g00139/laws.FnBlocksBack", spec := "fnBlocksBack", unfollowed := true, recurses := true, plainKeys := false, apart := false }
def FnBlocksBackSaid : Prop := fnBlocksBackRow.holds Try.pinned (OpenSpec.ofChange fnBlocksBackSpec)

/-- ITS FALSE NEIGHBOUR: 'it returns false'. Refute it at one input. -/
def fnBlocksBackWrong : ChangeSpec := { name := "fnBlocksBack", fn := fun _ => fun
  | [d1, d2] => { results := [.lit (.bool false)], args := [d1, d2] }
  | _ => none }
def FnBlocksBackWrongFalsely : Prop := fnBlocksBackRow.holds Try.pinned (OpenSpec.ofChange fnBlocksBackWrong)

/-- 'laws.FnExactDither': WHATEVER THE INPUT: true; the input reads as it did. -/
def fnExactDitherSpec : ChangeSpec := { name := "fnExactDither", fn := fun _ => fun
  | [d1, d2, d3] => { results := [.lit (.bool true)], args := [d1, d2, d3] }
  | _ => none }
def fnExactDitherRow : OpenClaim := { program := "ytcjjmfpkhhdmlaa", sum := "da71e2c39191733b8965cf663d221f6bcc052bbcfc41a29b37b7407ca3c18649", func := "loop.example/g00139/laws.FnExactDither", spec := "fnExactDither", unfollowed := true, recurses := true, plainKeys := false, apart := false }
def FnExactDitherSaid : Prop := fnExactDitherRow.holds Try.pinned (OpenSpec.ofChange fnExactDitherSpec)

/-- ITS FALSE NEIGHBOUR: 'it returns false'. Refute it at one input. -/
def fnExactDitherWrong : ChangeSpec := { name := "fnExactDither", fn := fun _ => fun
  | [d1, d2, d3] => { results := [.lit (.bool false)], args := [d1, d2, d3] }
  | _ => none }
def FnExactDitherWrongFalsely : Prop := fnExactDitherRow.holds Try.pinned (OpenSpec.ofChange fnExactDitherWrong)

/-- 'laws.FnNearest': WHATEVER THE INPUT: true; the input reads as it did. -/
def fnNearestSpec : ChangeSpec := { name := "fnNearest", fn := fun _ => fun
  | [d] => { results := [.lit (.bool true)], args := [d] }
  | _ => none }
def fnNearestRow : OpenClaim := { program := "ytcjjmfpkhhdmlaa", sum := "da71e2c39191733b8965cf663d221f6bcc052bbcfc41a29b37b7407ca3c18649", func := "loop.example/g00139/laws.FnNearest", spec := "fnNearest", unfollowed := true, recurses := true, plainKeys := false, apart := false }
def FnNearestSaid : Prop := fnNearestRow.holds Try.pinned (OpenSpec.ofChange fnNearestSpec)

/-- ITS FALSE NEIGHBOUR: 'it returns false'. Refute it at one input. -/
def fnNearestWrong : ChangeSpec := { name := "fnNearest", fn := fun _ => fun
  | [d] => { results := [.lit (.bool false)], args := [d] }
  | _ => none }
def FnNearestWrongFalsely : Prop := fnNearestRow.holds Try.pinned (OpenSpec.ofChange fnNearestWrong)

/-- 'laws.FnDithered': WHATEVER THE INPUT: true; the input reads as it did. -/
def fnDitheredSpec : ChangeSpec := { name := "fnDithered", fn := fun _ => fun
  | [d] => { results := [.lit (.bool true)], args := [d] }
  | _ => none }
def fnDitheredRow : OpenClaim := { program := "ytcjjmfpkhhdmlaa", sum := "da71e2c39191733b8965cf663d221f6bcc052bbcfc41a29b37b7407ca3c18649", func := "loop.example/g00139/laws.FnDithered", spec := "fnDithered", unfollowed := true, recurses := true, plainKeys := false, apart := false }
def FnDitheredSaid : Prop := fnDitheredRow.holds Try.pinned (OpenSpec.ofChange fnDitheredSpec)

/-- ITS FALSE NEIGHBOUR: 'it returns false'. Refute it at one input. -/
def fnDitheredWrong : ChangeSpec := { name := "fnDithered", fn := fun _ => fun
  | [d] => { results := [.lit (.bool false)], args := [d] }
  | _ => none }
def FnDitheredWrongFalsely : Prop := fnDitheredRow.holds Try.pinned (OpenSpec.ofChange fnDitheredWrong)

/-- 'laws.FnCodesBack': WHATEVER THE INPUT: true; the input reads as it did. -/
def fnCodesBackSpec : ChangeSpec := { name := "fnCodesBack", fn := fun _ => fun
  | [d] => { results := [.lit (.bool true)], args := [d] }
  | _ => none }
def fnCodesBackRow : OpenClaim := { program := "ytcjjmfpkhhdmlaa", sum := "da71e2c39191733b8965cf663d221f6bcc052bbcfc41a29b37b7407ca3c18649", func := "loop.example/g00139/laws.FnCodesBack", spec := "fnCodesBack", unfollowed := true, recurses := true, plainKeys := false, apart := false }
def FnCodesBackSaid : Prop := fnCodesBackRow.holds Try.pinned (OpenSpec.ofChange fnCodesBackSpec)

/-- ITS FALSE NEIGHBOUR: 'it returns false'. Refute it at one input. -/
def fnCodesBackWrong : ChangeSpec := { name := "fnCodesBack", fn := fun _ => fun
  | [d] => { results := [.lit (.bool false)], args := [d] }
  | _ => none }
def FnCodesBackWrongFalsely : Prop := fnCodesBackRow.holds Try.pinned (OpenSpec.ofChange fnCodesBackWrong)

/-- 'laws.FnExactPalette': WHATEVER THE INPUT: true; the input reads as it did. -/
def fnExactPaletteSpec : ChangeSpec := { name := "fnExactPalette", fn := fun _ => fun
  | [d1, d2] => { results := [.lit (.bool true)], args := [d1, d2] }
  | _ => none }
def fnExactPaletteRow : OpenClaim := { program := "ytcjjmfpkhhdmlaa", sum := "da71e2c39191733b8965cf663d221f6bcc052bbcfc41a29b37b7407ca3c18649", func := "loop.example/g00139/laws.FnExactPalette", spec := "fnExactPalette", unfollowed := true, recurses := true, plainKeys := false, apart := false }
def FnExactPaletteSaid : Prop := fnExactPaletteRow.holds Try.pinned (OpenSpec.ofChange fnExactPaletteSpec)

/-- ITS FALSE NEIGHBOUR: 'it returns false'. Refute it at one input. -/
def fnExactPaletteWrong : ChangeSpec := { name := "fnExactPalette", fn := fun _ => fun
  | [d1, d2] => { results := [.lit (.bool false)], args := [d1, d2] }
  | _ => none }
def FnExactPaletteWrongFalsely : Prop := fnExactPaletteRow.holds Try.pinned (OpenSpec.ofChange fnExactPaletteWrong)

/-- 'laws.FnPalette': WHATEVER THE INPUT: true; the input reads as it did. -/
def fnPaletteSpec : ChangeSpec := { name := "fnPalette", fn := fun _ => fun
  | [d] => { results := [.lit (.bool true)], args := [d] }
  | _ => none }
def fnPaletteRow : OpenClaim := { program := "ytcjjmfpkhhdmlaa", sum := "da71e2c39191733b8965cf663d221f6bcc052bbcfc41a29b37b7407ca3c18649", func := "loop.example/g00139/laws.FnPalette", spec := "fnPalette", unfollowed := true, recurses := true, plainKeys := false, apart := false }
def FnPaletteSaid : Prop := fnPaletteRow.holds Try.pinned (OpenSpec.ofChange fnPaletteSpec)

/-- ITS FALSE NEIGHBOUR: 'it returns false'. Refute it at one input. -/
def fnPaletteWrong : ChangeSpec := { name := "fnPalette", fn := fun _ => fun
  | [d] => { results := [.lit (.bool false)], args := [d] }
  | _ => none }
def FnPaletteWrongFalsely : Prop := fnPaletteRow.holds Try.pinned (OpenSpec.ofChange fnPaletteWrong)

/-- 'laws.FnExactSegsSoFar': WHATEVER THE INPUT: true; the input reads as it did. -/
def fnExactSegsSoFarSpec : ChangeSpec := { name := "fnExactSegsSoFar", fn := fun _ => fun
  | [d] => { results := [.lit (.bool true)], args := [d] }
  | _ => none }
def fnExactSegsSoFarRow : OpenClaim := { program := "ytcjjmfpkhhdmlaa", sum := "da71e2c39191733b8965cf663d221f6bcc052bbcfc41a29b37b7407ca3c18649", func := "loop.example/g00139/laws.FnExactSegsSoFar", spec := "fnExactSegsSoFar", plainKeys := false, apart := false }
def FnExactSegsSoFarSaid : Prop := fnExactSegsSoFarRow.holds Try.pinned (OpenSpec.ofChange fnExactSegsSoFarSpec)

/-- ITS FALSE NEIGHBOUR: 'it returns false'. Refute it at one input. -/
def fnExactSegsSoFarWrong : ChangeSpec := { name := "fnExactSegsSoFar", fn := fun _ => fun
  | [d] => { results := [.lit (.bool false)], args := [d] }
  | _ => none }
def FnExactSegsSoFarWrongFalsely : Prop := fnExactSegsSoFarRow.holds Try.pinned (OpenSpec.ofChange fnExactSegsSoFarWrong)

/-- 'laws.FnExactFeedOk': WHATEVER THE INPUT: true; the input reads as it did. -/
def fnExactFeedOkSpec : ChangeSpec := { name := "fnExactFeedOk", fn := fun _ => fun
  | [d] => { results := [.lit (.bool true)], args := [d] }
  | _ => none }
def fnExactFeedOkRow : OpenClaim := { program := "ytcjjmfpkhhdmlaa", sum := "da71e2c39191733b8965cf663d221f6bcc052bbcfc41a29b37b7407ca3c18649", func := "loop.example/g00139/laws.FnExactFeedOk", spec := "fnExactFeedOk", plainKeys := false, apart := false }
def FnExactFeedOkSaid : Prop := fnExactFeedOkRow.holds Try.pinned (OpenSpec.ofChange fnExactFeedOkSpec)

/-- ITS FALSE NEIGHBOUR: 'it returns false'. Refute it at one input. -/
def fnExactFeedOkWrong : ChangeSpec := { name := "fnExactFeedOk", fn := fun _ => fun
  | [d] => { results := [.lit (.bool false)], args := [d] }
  | _ => none }
def FnExactFeedOkWrongFalsely : Prop := fnExactFeedOkRow.holds Try.pinned (OpenSpec.ofChange fnExactFeedOkWrong)

/-- 'laws.FnExactPush': WHATEVER THE INPUT: true; the input reads as it did. -/
def fnExactPushSpec : ChangeSpec := { name := "fnExactPush", fn := fun _ => fun
  | [d1, d2] => { results := [.lit (.bool true)], args := [d1, d2] }
  | _ => none }
def fnExactPushRow : OpenClaim := { program := "ytcjjmfpkhhdmlaa", sum := "da71e2c39191733b8965cf663d221f6bcc052bbcfc41a29b37b7407ca3c18649", func := "loop.example/g00139/laws.FnExactPush", spec := "fnExactPush", plainKeys := false, apart := false }
def FnExactPushSaid : Prop := fnExactPushRow.holds Try.pinned (OpenSpec.ofChange fnExactPushSpec)

/-- ITS FALSE NEIGHBOUR: 'it returns false'. Refute it at one input. -/
def fnExactPushWrong : ChangeSpec := { name := "fnExactPush", fn := fun _ => fun
  | [d1, d2] => { results := [.lit (.bool false)], args := [d1, d2] }
  | _ => none }
def FnExactPushWrongFalsely : Prop := fnExactPushRow.holds Try.pinned (OpenSpec.ofChange fnExactPushWrong)

/-- 'laws.FnSoFar': WHATEVER THE INPUT: true; the input reads as it did. -/
def fnSoFarSpec : ChangeSpec := { name := "fnSoFar", fn := fun _ => fun
  | [d1, d2] => { results := [.lit (.bool true)], args := [d1, d2] }
  | _ => none }
def fnSoFarRow : OpenClaim := { program := "ytcjjmfpkhhdmlaa", sum := "da71e2c39191733b8965cf663d221f6bcc052bbcfc41a29b37b7407ca3c18649", func := "loop.example/g00139/laws.FnSoFar", spec := "fnSoFar", plainKeys := false, apart := false }
def FnSoFarSaid : Prop := fnSoFarRow.holds Try.pinned (OpenSpec.ofChange fnSoFarSpec)

/-- ITS FALSE NEIGHBOUR: 'it returns false'. Refute it at one input. -/
def fnSoFarWrong : ChangeSpec := { name := "fnSoFar", fn := fun _ => fun
  | [d1, d2] => { results := [.lit (.bool false)], args := [d1, d2] }
  | _ => none }
def FnSoFarWrongFalsely : Prop := fnSoFarRow.holds Try.pinned (OpenSpec.ofChange fnSoFarWrong)

/- THE SECOND FORM. 'bulk': how many values and letters a reading holds, each counted each time it is reached (what is shared counts as often as it is met; a slice's spare places count too). A statement '..UptoSaid' is the law's where the arguments, and the package variables that the reading takes, are together of bulk at most 1048576: NARROWER than '..Said'. Prove '..Said' where nothing that the law and all that it calls make is longer than what came in: it says more and counts as full. Else prove '..UptoSaid'. A law counts once. -/
mutual
def uptoBulk {H : Type} : DataW H → Nat
  | .lit (.string bytes) => bytes.length + 1
  | .lit _ => 1
  | .nil => 1
  | .ptr d => uptoBulk d + 1
  | .slice elems spare => uptoBulkAll elems + uptoBulkAll spare + 1
  | .agg parts => uptoBulkAll parts + 1
  | .iface _ d => uptoBulk d + 1
  | .map entries => uptoBulkEntries entries + 1
  | .held _ => 1
def uptoBulkAll {H : Type} : List (DataW H) → Nat
  | [] => 0
  | d :: r => uptoBulk d + uptoBulkAll r
def uptoBulkEntries {H : Type} : List (Lit × DataW H) → Nat
  | [] => 0
  | x :: r => uptoBulkEntry x + uptoBulkEntries r
def uptoBulkEntry {H : Type} : Lit × DataW H → Nat
  | (.string bytes, d) => bytes.length + uptoBulk d + 1
  | (_, d) => uptoBulk d + 1
 end
def uptoSmall : (H : Type) → List (DataW H) → Bool := fun _ ds => decide (uptoBulkAll ds ≤ 1048576)
def OpenSpec.upto (s : _root_.Go.ChangeSpec) : _root_.Go.OpenSpec := { _root_.Go.OpenSpec.ofChange s with cond := some uptoSmall }

/-- 'laws.FnExactCodeRead', WHERE WHAT IT READS IS OF BULK AT MOST 1048576: true; the input reads as it did. -/
def fnExactCodeReadUptoRow : OpenClaim := { program := "ytcjjmfpkhhdmlaa", sum := "da71e2c39191733b8965cf663d221f6bcc052bbcfc41a29b37b7407ca3c18649", func := "loop.example/g00139/laws.FnExactCodeRead", spec := "fnExactCodeRead", plainKeys := false, apart := false, narrowed := true }
def FnExactCodeReadUptoSaid : Prop := fnExactCodeReadUptoRow.holds Try.pinned (OpenSpec.upto fnExactCodeReadSpec)

/-- 'laws.FnBlocksBack', WHERE WHAT IT READS IS OF BULK AT MOST 1048576: true; the input reads as it did. -/
def fnBlocksBackUptoRow : OpenClaim := { program := "ytcjjmfpkhhdmlaa", sum := "da71e2c39191733b8965cf663d221f6bcc052bbcfc41a29b37b7407ca3c18649", func := "loop.example/g00139/laws.FnBlocksBack", spec := "fnBlocksBack", unfollowed := true, recurses := true, plainKeys := false, apart := false, narrowed := true }
def FnBlocksBackUptoSaid : Prop := fnBlocksBackUptoRow.holds Try.pinned (OpenSpec.upto fnBlocksBackSpec)

/-- 'laws.FnExactDither', WHERE WHAT IT READS IS OF BULK AT MOST 1048576: true; the input reads as it did. -/
def fnExactDitherUptoRow : OpenClaim := { program := "ytcjjmfpkhhdmlaa", sum := "da71e2c39191733b8965cf663d221f6bcc052bbcfc41a29b37b7407ca3c18649", func := "loop.example/g00139/laws.FnExactDither", spec := "fnExactDither", unfollowed := true, recurses := true, plainKeys := false, apart := false, narrowed := true }
def FnExactDitherUptoSaid : Prop := fnExactDitherUptoRow.holds Try.pinned (OpenSpec.upto fnExactDitherSpec)

/-- 'laws.FnNearest', WHERE WHAT IT READS IS OF BULK AT MOST 1048576: true; the input reads as it did. -/
def fnNearestUptoRow : OpenClaim := { program := "ytcjjmfpkhhdmlaa", sum := "da71e2c39191733b8965cf663d221f6bcc052bbcfc41a29b37b7407ca3c18649", func := "loop.example/g00139/laws.FnNearest", spec := "fnNearest", unfollowed := true, recurses := true, plainKeys := false, apart := false, narrowed := true }
def FnNearestUptoSaid : Prop := fnNearestUptoRow.holds Try.pinned (OpenSpec.upto fnNearestSpec)

/-- 'laws.FnDithered', WHERE WHAT IT READS IS OF BULK AT MOST 1048576: true; the input reads as it did. -/
def fnDitheredUptoRow : OpenClaim := { program := "ytcjjmfpkhhdmlaa", sum := "da71e2c39191733b8965cf663d221f6bcc052bbcfc41a29b37b7407ca3c18649", func := "loop.example/g00139/laws.FnDithered", spec := "fnDithered", unfollowed := true, recurses := true, plainKeys := false, apart := false, narrowed := true }
def FnDitheredUptoSaid : Prop := fnDitheredUptoRow.holds Try.pinned (OpenSpec.upto fnDitheredSpec)

/-- 'laws.FnCodesBack', WHERE WHAT IT READS IS OF BULK AT MOST 1048576: true; the input reads as it did. -/
def fnCodesBackUptoRow : OpenClaim := { program := "ytcjjmfpkhhdmlaa", sum := "da71e2c39191733b8965cf663d221f6bcc052bbcfc41a29b37b7407ca3c18649", func := "loop.example/g00139/laws.FnCodesBack", spec := "fnCodesBack", unfollowed := true, recurses := true, plainKeys := false, apart := false, narrowed := true }
def FnCodesBackUptoSaid : Prop := fnCodesBackUptoRow.holds Try.pinned (OpenSpec.upto fnCodesBackSpec)

/-- 'laws.FnExactPalette', WHERE WHAT IT READS IS OF BULK AT MOST 1048576: true; the input reads as it did. -/
def fnExactPaletteUptoRow : OpenClaim := { program := "ytcjjmfpkhhdmlaa", sum := "da71e2c39191733b8965cf663d221f6bcc052bbcfc41a29b37b7407ca3c18649", func := "loop.example/g00139/laws.FnExactPalette", spec := "fnExactPalette", unfollowed := true, recurses := true, plainKeys := false, apart := false, narrowed := true }
def FnExactPaletteUptoSaid : Prop := fnExactPaletteUptoRow.holds Try.pinned (OpenSpec.upto fnExactPaletteSpec)

/-- 'laws.FnPalette', WHERE WHAT IT READS IS OF BULK AT MOST 1048576: true; the input reads as it did. -/
def fnPaletteUptoRow : OpenClaim := { program := "ytcjjmfpkhhdmlaa", sum := "da71e2c39191733b8965cf663d221f6bcc052bbcfc41a29b37b7407ca3c18649", func := "loop.example/g00139/laws.FnPalette", spec := "fnPalette", unfollowed := true, recurses := true, plainKeys := false, apart := false, narrowed := true }
def FnPaletteUptoSaid : Prop := fnPaletteUptoRow.holds Try.pinned (OpenSpec.upto fnPaletteSpec)

/-- 'laws.FnExactSegsSoFar', WHERE WHAT IT READS IS OF BULK AT MOST 1048576: true; the input reads as it did. -/
def fnExactSegsSoFarUptoRow : OpenClaim := { program := "ytcjjmfpkhhdmlaa", sum := "da71e2c39191733b8965cf663d221f6bcc052bbcfc41a29b37b7407ca3c18649", func := "loop.example/g00139/laws.FnExactSegsSoFar", spec := "fnExactSegsSoFar", plainKeys := false, apart := false, narrowed := true }
def FnExactSegsSoFarUptoSaid : Prop := fnExactSegsSoFarUptoRow.holds Try.pinned (OpenSpec.upto fnExactSegsSoFarSpec)

/-- 'laws.FnExactFeedOk', WHERE WHAT IT READS IS OF BULK AT MOST 1048576: true; the input reads as it did. -/
def fnExactFeedOkUptoRow : OpenClaim := { program := "ytcjjmfpkhhdmlaa", sum := "da71e2c39191733b8965cf663d221f6bcc052bbcfc41a29b37b7407ca3c18649", func := "loop.example/g00139/laws.FnExactFeedOk", spec := "fnExactFeedOk", plainKeys := false, apart := false, narrowed := true }
def FnExactFeedOkUptoSaid : Prop := fnExactFeedOkUptoRow.holds Try.pinned (OpenSpec.upto fnExactFeedOkSpec)

/-- 'laws.FnExactPush', WHERE WHAT IT READS IS OF BULK AT MOST 1048576: true; the input reads as it did. -/
def fnExactPushUptoRow : OpenClaim := { program := "ytcjjmfpkhhdmlaa", sum := "da71e2c39191733b8965cf663d221f6bcc052bbcfc41a29b37b7407ca3c18649", func := "loop.example/g00139/laws.FnExactPush", spec := "fnExactPush", plainKeys := false, apart := false, narrowed := true }
def FnExactPushUptoSaid : Prop := fnExactPushUptoRow.holds Try.pinned (OpenSpec.upto fnExactPushSpec)

/-- 'laws.FnSoFar', WHERE WHAT IT READS IS OF BULK AT MOST 1048576: true; the input reads as it did. -/
def fnSoFarUptoRow : OpenClaim := { program := "ytcjjmfpkhhdmlaa", sum := "da71e2c39191733b8965cf663d221f6bcc052bbcfc41a29b37b7407ca3c18649", func := "loop.example/g00139/laws.FnSoFar", spec := "fnSoFar", plainKeys := false, apart := false, narrowed := true }
def FnSoFarUptoSaid : Prop := fnSoFarUptoRow.holds Try.pinned (OpenSpec.upto fnSoFarSpec)

end Rows
end Go.Proofs.Ytcjjmfpkhhdmlaa
