/-
  No cell of these rows narrows 'for every input' (looked for: loops, veiled, ifaces, maps, wideKeys, modest, calm, conditions, laid).
  DERIVED. THE GIVEN ROWS OF THIS SEAT. 3 by the template 'for every input the law returns true; each argument reads behind the call as it read before'; 0 by the template 'total and deterministic' (their statements: YtopebplddfhaeaaTotals.lean).
  GIVEN WITH THE SEED: the statements are not yours to turn. If you find one false, say at which input.
  Laid BY PROGRAM, IN A SANDBOX (cutbox-rows.mjs): the forced cells as the released guide's own fill.sh prints them over the translation eeb1b57353614bd8… (all of the seat's roots in one cut). By AI agents, Wed Nov 11 2026. No macro, syntax, notation, axiom, sorry.
-/
import Derived.Test.YtopebplddfhaeaaChecked
import GoSem.Claim
import GoSem.ClaimJoined
import GoSem.ClaimMapViews
import Derived.JoinedTies
import Derived.KernelRfl
namespace Go.Proofs.Ytopebplddfhaeaa
/- THE CELL 'sum', in the pinned program and in every row, IS THE sha256 OF THE DUMP (.gsa) THAT YtopebplddfhaeaaProg.lean LOADS. Nothing in Lean hashes anything: it is a label: what it is worth is what the hold of that sum in a sandbox is worth. -/
noncomputable def Try.pinned : Pinned := { name := "ytopebplddfhaeaa", sum := "eeb1b57353614bd853bc4ab2e67aa2b82e1c4291433ef727b2c4ac8649e32106", checked := Try.checked }
namespace Rows
def none {H : Type} : Left H := { results := [], args := [] }

/-- 'laws.FnNearest': WHATEVER THE INPUT: true; the input reads as it did. -/
def fnNearestSpec : ChangeSpec := { name := "fnNearest", fn := fun _ => fun
  | [d] => { results := [.lit (.bool true)], args := [d] }
  | _ => none }
def fnNearestRow : OpenClaim := { program := "ytopebplddfhaeaa", sum := "eeb1b57353614bd853bc4ab2e67aa2b82e1c4291433ef727b2c4ac8649e32106", func := "loop.example/g00139/laws.FnNearest", spec := "fnNearest", unfollowed := true, recurses := true, apart := false }
def FnNearestSaid : Prop := fnNearestRow.holds Try.pinned (OpenSpec.ofChange fnNearestSpec)

/-- ITS FALSE NEIGHBOUR: 'it returns false'. Refute it at one input. -/
def fnNearestWrong : ChangeSpec := { name := "fnNearest", fn := fun _ => fun
  | [d] => { results := [.lit (.bool false)], args := [d] }
  | _ => none }
def FnNearestWrongFalsely : Prop := fnNearestRow.holds Try.pinned (OpenSpec.ofChange fnNearestWrong)

/-- 'laws.FnDithered': WHATEVER THE INPUT: true; the input reads as it did. -/
def fnDitheredSpec : ChangeSpec := { name := "fnDithered", fn := fun _ => fun
  | [d] => { results := [.lit (.bool true)], args := [d] }
  | _ => none }
def fnDitheredRow : OpenClaim := { program := "ytopebplddfhaeaa", sum := "eeb1b57353614bd853bc4ab2e67aa2b82e1c4291433ef727b2c4ac8649e32106", func := "loop.example/g00139/laws.FnDithered", spec := "fnDithered", unfollowed := true, recurses := true, apart := false }
def FnDitheredSaid : Prop := fnDitheredRow.holds Try.pinned (OpenSpec.ofChange fnDitheredSpec)

/-- ITS FALSE NEIGHBOUR: 'it returns false'. Refute it at one input. -/
def fnDitheredWrong : ChangeSpec := { name := "fnDithered", fn := fun _ => fun
  | [d] => { results := [.lit (.bool false)], args := [d] }
  | _ => none }
def FnDitheredWrongFalsely : Prop := fnDitheredRow.holds Try.pinned (OpenSpec.ofChange fnDitheredWrong)

/-- 'laws.FnPalette': WHATEVER THE INPUT: true; the input reads as it did. -/
def fnPaletteSpec : ChangeSpec := { name := "fnPalette", fn := fun _ => fun
  | [d] => { results := [.lit (.bool true)], args := [d] }
  | _ => none }
def fnPaletteRow : OpenClaim := { program := "ytopebplddfhaeaa", sum := "eeb1b57353614bd853bc4ab2e67aa2b82e1c4291433ef727b2c4ac8649e32106", func := "loop.example/g00139/laws.FnPalette", spec := "fnPalette", unfollowed := true, recurses := true, apart := false }
def FnPaletteSaid : Prop := fnPaletteRow.holds Try.pinned (OpenSpec.ofChange fnPaletteSpec)

/-- ITS FALSE NEIGHBOUR: 'it returns false'. Refute it at one input. -/
def fnPaletteWrong : ChangeSpec := { name := "fnPalette", fn := fun _ => fun
  | [d] => { results := [.lit (.bool false)], args := [d] }
  | _ => none }
def FnPaletteWrongFalsely : Prop := fnPaletteRow.holds Try.pinned (OpenSpec.ofChange fnPaletteWrong)

/- THE SECOND FORM. 'bulk': how many values and letters a reading holds, each counted each time it is reached (what is shared counts as often as it is met; a slice's spare places count too). A statement '..UptoSaid' is the law's where the arguments, and the package variables that the reading takes, are together of bulk at most 1048576: NARROWER than '..Said'. Prove '..Said' where nothing that the law and all that it calls make is longer than what came in: it says more and counts as full. Else prove '..UptoSaid'. A law counts once. -/
mutual
def uptoBulk {H : Type} : DataW H → Nat
  | .lit (.string bytes) => bytes.length + 1
  | .lit _ => 1
  | .nil => 1
  | .ptr d => uptoBulk d + 1
  | .slice elems spare => uptoBulkAll elems + uptoBulkAll spare + 1
  | .agg parts => uptoBulkAll parts + 1
  | .iface _ d => uptoBulk d + 1
  | .map entries => uptoBulkEntries entries + 1
  | .held _ => 1
def uptoBulkAll {H : Type} : List (DataW H) → Nat
  | [] => 0
  | d :: r => uptoBulk d + uptoBulkAll r
def uptoBulkEntries {H : Type} : List (Lit × DataW H) → Nat
  | [] => 0
  | x :: r => uptoBulkEntry x + uptoBulkEntries r
def uptoBulkEntry {H : Type} : Lit × DataW H → Nat
  | (.string bytes, d) => bytes.length + uptoBulk d + 1
  | (_, d) => uptoBulk d + 1
 end
def uptoSmall : (H : Type) → List (DataW H) → Bool := fun _ ds => decide (uptoBulkAll ds ≤ 1048576)
def OpenSpec.upto (s : _root_.Go.ChangeSpec) : _root_.Go.OpenSpec := { _root_.Go.OpenSpec.ofChange s with cond := some uptoSmall }

/-- 'laws.FnNearest', WHERE WHAT IT READS IS OF BULK AT MOST 1048576: true; the input reads as it did. -/
def fnNearestUptoRow : OpenClaim := { program := "ytopebplddfhaeaa", sum := "eeb1b57353614bd853bc4ab2e67aa2b82e1c4291433ef727b2c4ac8649e32106", func := "loop.example/g00139/laws.FnNearest", spec := "fnNearest", unfollowed := true, recurses := true, apart := false, narrowed := true }
def FnNearestUptoSaid : Prop := fnNearestUptoRow.holds Try.pinned (OpenSpec.upto fnNearestSpec)

/-- 'laws.FnDithered', WHERE WHAT IT READS IS OF BULK AT MOST 1048576: true; the input reads as it did. -/
def fnDitheredUptoRow : OpenClaim := { program := "ytopebplddfhaeaa", sum := "eeb1b57353614bd853bc4ab2e67aa2b82e1c4291433ef727b2c4ac8649e32106", func := "loop.example/g00139/laws.FnDithered", spec := "fnDithered", unfollowed := true, recurses := true, apart := false, narrowed := true }
def FnDitheredUptoSaid : Prop := fnDitheredUptoRow.holds Try.pinned (OpenSpec.upto fnDitheredSpec)

/-- 'laws.FnPalette', WHERE WHAT IT READS IS OF BULK AT MOST 1048576: true; the input reads as it did. -/
def fnPaletteUptoRow : OpenClaim := { program := "ytopebplddfhaeaa", sum := "eeb1b57353614bd853bc4ab2e67aa2b82e1c4291433ef727b2c4ac8649e32106", func := "loop.example/g00139/laws.FnPalette", spec := "fnPalette", unfollowed := true, recurses := true, apart := false, narrowed := true }
def FnPaletteUptoSaid : Prop := fnPaletteUptoRow.holds Try.pinned (OpenSpec.upto fnPaletteSpec)

end Rows
end Go.Proofs.Ytopebplddfhaeaa
