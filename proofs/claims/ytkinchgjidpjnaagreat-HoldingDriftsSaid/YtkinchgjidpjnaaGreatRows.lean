/-
  No cell of these rows narrows 'for every input' (looked for: loops, veiled, ifaces, maps, wideKeys, modest, calm, conditions, laid).
  DERIVED. THE GIVEN ROWS OF THIS SEAT. 8 by the template 'for every input the law returns true; each argument reads behind the call as it read before'; 0 by the template 'total and deterministic' (their statements: YtkinchgjidpjnaaGreatTotals.lean).
  GIVEN WITH THE SEED: the statements are not yours to turn. If you find one false, say at which input.
  Laid BY PROGRAM, IN A SANDBOX (cutbox-rows.mjs): the forced cells as the released guide's own fill.sh prints them over the translation ecf4360ac4649833… (all of the seat's roots in one cut). By AI agents, Wed Nov 11 2026. No macro, syntax, notation, axiom, sorry.
-/
import Derived.Test.YtkinchgjidpjnaaGreatChecked
import GoSem.Claim
import GoSem.ClaimJoined
import GoSem.ClaimMapViews
import Derived.JoinedTies
import Derived.KernelRfl
namespace Go.Proofs.YtkinchgjidpjnaaGreat
/- THE CELL 'sum', in the pinned program and in every row, IS THE sha256 OF THE DUMP (.gsa) THAT YtkinchgjidpjnaaGreatProg.lean LOADS. Nothing in Lean hashes anything: it is a label: what it is worth is what the hold of that sum in a sandbox is worth. -/
noncomputable def Tryz.pinned : Pinned := { name := "ytkinchgjidpjnaagreat", sum := "ecf4360ac46498335aad86388330f10884a400739aeb4367d3151cf8a1a4c8c6", checked := Tryz.checked }
namespace Rows
def none {H : Type} : Left H := { results := [], args := [] }

/-- 'distraintlaw13.HoldingActs': WHATEVER THE INPUT: true; the input reads as it did. -/
def holdingActsSpec : ChangeSpec := { name := "holdingActs", fn := fun _ => fun
  | [d1, d2] => { results := [.lit (.bool true)], args := [d1, d2] }
  | _ => none }
def holdingActsRow : OpenClaim := { program := "ytkinchgjidpjnaagreat", sum := "ecf4360ac46498335aad86388330f10884a400739aeb4367d3151cf8a1a4c8c6", func := "distraint/distraintlaw13.HoldingActs", spec := "holdingActs", inPlace := ["math/bits.Add64", "slices.overlaps[distraint/api.Class]", "slices.overlaps[distraint/api.Position]"], unfollowed := true, recurses := true, named := ["math/bits.divideError", "math/bits.overflowError"], apart := false }
def HoldingActsSaid : Prop := holdingActsRow.holds Tryz.pinned (OpenSpec.ofChange holdingActsSpec)

/-- ITS FALSE NEIGHBOUR: 'it returns false'. Refute it at one input. -/
def holdingActsWrong : ChangeSpec := { name := "holdingActs", fn := fun _ => fun
  | [d1, d2] => { results := [.lit (.bool false)], args := [d1, d2] }
  | _ => none }
def HoldingActsWrongFalsely : Prop := holdingActsRow.holds Tryz.pinned (OpenSpec.ofChange holdingActsWrong)

/-- 'distraintlaw13.HoldingKnown': WHATEVER THE INPUT: true; the input reads as it did. -/
def holdingKnownSpec : ChangeSpec := { name := "holdingKnown", fn := fun _ => fun
  | [] => { results := [.lit (.bool true)], args := [] }
  | _ => none }
def holdingKnownRow : OpenClaim := { program := "ytkinchgjidpjnaagreat", sum := "ecf4360ac46498335aad86388330f10884a400739aeb4367d3151cf8a1a4c8c6", func := "distraint/distraintlaw13.HoldingKnown", spec := "holdingKnown", inPlace := ["math/bits.Add64", "slices.overlaps[distraint/api.Class]", "slices.overlaps[distraint/api.Position]"], unfollowed := true, recurses := true, named := ["math/bits.divideError", "math/bits.overflowError"], apart := false }
def HoldingKnownSaid : Prop := holdingKnownRow.holds Tryz.pinned (OpenSpec.ofChange holdingKnownSpec)

/-- ITS FALSE NEIGHBOUR: 'it returns false'. Refute it at one input. -/
def holdingKnownWrong : ChangeSpec := { name := "holdingKnown", fn := fun _ => fun
  | [] => { results := [.lit (.bool false)], args := [] }
  | _ => none }
def HoldingKnownWrongFalsely : Prop := holdingKnownRow.holds Tryz.pinned (OpenSpec.ofChange holdingKnownWrong)

/-- 'distraintlaw13.HoldingTells': WHATEVER THE INPUT: true; the input reads as it did. -/
def holdingTellsSpec : ChangeSpec := { name := "holdingTells", fn := fun _ => fun
  | [d1, d2, d3, d4, d5] => { results := [.lit (.bool true)], args := [d1, d2, d3, d4, d5] }
  | _ => none }
def holdingTellsRow : OpenClaim := { program := "ytkinchgjidpjnaagreat", sum := "ecf4360ac46498335aad86388330f10884a400739aeb4367d3151cf8a1a4c8c6", func := "distraint/distraintlaw13.HoldingTells", spec := "holdingTells", inPlace := ["math/bits.Add64", "slices.overlaps[distraint/api.Class]", "slices.overlaps[distraint/api.Position]"], unfollowed := true, recurses := true, named := ["math/bits.divideError", "math/bits.overflowError"], apart := false }
def HoldingTellsSaid : Prop := holdingTellsRow.holds Tryz.pinned (OpenSpec.ofChange holdingTellsSpec)

/-- ITS FALSE NEIGHBOUR: 'it returns false'. Refute it at one input. -/
def holdingTellsWrong : ChangeSpec := { name := "holdingTells", fn := fun _ => fun
  | [d1, d2, d3, d4, d5] => { results := [.lit (.bool false)], args := [d1, d2, d3, d4, d5] }
  | _ => none }
def HoldingTellsWrongFalsely : Prop := holdingTellsRow.holds Tryz.pinned (OpenSpec.ofChange holdingTellsWrong)

/-- 'distraintlaw13.HoldingSums': WHATEVER THE INPUT: true; the input reads as it did. -/
def holdingSumsSpec : ChangeSpec := { name := "holdingSums", fn := fun _ => fun
  | [d] => { results := [.lit (.bool true)], args := [d] }
  | _ => none }
def holdingSumsRow : OpenClaim := { program := "ytkinchgjidpjnaagreat", sum := "ecf4360ac46498335aad86388330f10884a400739aeb4367d3151cf8a1a4c8c6", func := "distraint/distraintlaw13.HoldingSums", spec := "holdingSums", inPlace := ["math/bits.Add64", "slices.overlaps[distraint/api.Class]", "slices.overlaps[distraint/api.Position]"], unfollowed := true, recurses := true, named := ["math/bits.divideError", "math/bits.overflowError"], apart := false }
def HoldingSumsSaid : Prop := holdingSumsRow.holds Tryz.pinned (OpenSpec.ofChange holdingSumsSpec)

/-- ITS FALSE NEIGHBOUR: 'it returns false'. Refute it at one input. -/
def holdingSumsWrong : ChangeSpec := { name := "holdingSums", fn := fun _ => fun
  | [d] => { results := [.lit (.bool false)], args := [d] }
  | _ => none }
def HoldingSumsWrongFalsely : Prop := holdingSumsRow.holds Tryz.pinned (OpenSpec.ofChange holdingSumsWrong)

/-- 'distraintlaw13.HoldingBlames': WHATEVER THE INPUT: true; the input reads as it did. -/
def holdingBlamesSpec : ChangeSpec := { name := "holdingBlames", fn := fun _ => fun
  | [d1, d2, d3, d4] => { results := [.lit (.bool true)], args := [d1, d2, d3, d4] }
  | _ => none }
def holdingBlamesRow : OpenClaim := { program := "ytkinchgjidpjnaagreat", sum := "ecf4360ac46498335aad86388330f10884a400739aeb4367d3151cf8a1a4c8c6", func := "distraint/distraintlaw13.HoldingBlames", spec := "holdingBlames", inPlace := ["math/bits.Add64", "slices.overlaps[distraint/api.Class]", "slices.overlaps[distraint/api.Position]"], unfollowed := true, recurses := true, named := ["math/bits.divideError", "math/bits.overflowError"], apart := false }
def HoldingBlamesSaid : Prop := holdingBlamesRow.holds Tryz.pinned (OpenSpec.ofChange holdingBlamesSpec)

/-- ITS FALSE NEIGHBOUR: 'it returns false'. Refute it at one input. -/
def holdingBlamesWrong : ChangeSpec := { name := "holdingBlames", fn := fun _ => fun
  | [d1, d2, d3, d4] => { results := [.lit (.bool false)], args := [d1, d2, d3, d4] }
  | _ => none }
def HoldingBlamesWrongFalsely : Prop := holdingBlamesRow.holds Tryz.pinned (OpenSpec.ofChange holdingBlamesWrong)

/-- 'distraintlaw13.HoldingDrifts': WHATEVER THE INPUT: true; the input reads as it did. -/
def holdingDriftsSpec : ChangeSpec := { name := "holdingDrifts", fn := fun _ => fun
  | [d1, d2, d3] => { results := [.lit (.bool true)], args := [d1, d2, d3] }
  | _ => none }
def holdingDriftsRow : OpenClaim := { program := "ytkinchgjidpjnaagreat", sum := "ecf4360ac46498335aad86388330f10884a400739aeb4367d3151cf8a1a4c8c6", func := "distraint/distraintlaw13.HoldingDrifts", spec := "holdingDrifts", inPlace := ["math/bits.Add64", "slices.overlaps[distraint/api.Class]", "slices.overlaps[distraint/api.Position]"], unfollowed := true, recurses := true, named := ["math/bits.divideError", "math/bits.overflowError"], apart := false }
def HoldingDriftsSaid : Prop := holdingDriftsRow.holds Tryz.pinned (OpenSpec.ofChange holdingDriftsSpec)

/-- ITS FALSE NEIGHBOUR: 'it returns false'. Refute it at one input. -/
def holdingDriftsWrong : ChangeSpec := { name := "holdingDrifts", fn := fun _ => fun
  | [d1, d2, d3] => { results := [.lit (.bool false)], args := [d1, d2, d3] }
  | _ => none }
def HoldingDriftsWrongFalsely : Prop := holdingDriftsRow.holds Tryz.pinned (OpenSpec.ofChange holdingDriftsWrong)

/-- 'distraintlaw13.HoldingBytes': WHATEVER THE INPUT: true; the input reads as it did. -/
def holdingBytesSpec : ChangeSpec := { name := "holdingBytes", fn := fun _ => fun
  | [d1, d2] => { results := [.lit (.bool true)], args := [d1, d2] }
  | _ => none }
def holdingBytesRow : OpenClaim := { program := "ytkinchgjidpjnaagreat", sum := "ecf4360ac46498335aad86388330f10884a400739aeb4367d3151cf8a1a4c8c6", func := "distraint/distraintlaw13.HoldingBytes", spec := "holdingBytes", inPlace := ["math/bits.Add64", "slices.overlaps[distraint/api.Class]", "slices.overlaps[distraint/api.Position]"], unfollowed := true, recurses := true, named := ["math/bits.divideError", "math/bits.overflowError"], apart := false }
def HoldingBytesSaid : Prop := holdingBytesRow.holds Tryz.pinned (OpenSpec.ofChange holdingBytesSpec)

/-- ITS FALSE NEIGHBOUR: 'it returns false'. Refute it at one input. -/
def holdingBytesWrong : ChangeSpec := { name := "holdingBytes", fn := fun _ => fun
  | [d1, d2] => { results := [.lit (.bool false)], args := [d1, d2] }
  | _ => none }
def HoldingBytesWrongFalsely : Prop := holdingBytesRow.holds Tryz.pinned (OpenSpec.ofChange holdingBytesWrong)

/-- 'distraintlaw13.HoldingBack': WHATEVER THE INPUT: true; the input reads as it did. -/
def holdingBackSpec : ChangeSpec := { name := "holdingBack", fn := fun _ => fun
  | [d1, d2] => { results := [.lit (.bool true)], args := [d1, d2] }
  | _ => none }
def holdingBackRow : OpenClaim := { program := "ytkinchgjidpjnaagreat", sum := "ecf4360ac46498335aad86388330f10884a400739aeb4367d3151cf8a1a4c8c6", func := "distraint/distraintlaw13.HoldingBack", spec := "holdingBack", inPlace := ["math/bits.Add64", "slices.overlaps[distraint/api.Class]", "slices.overlaps[distraint/api.Position]"], unfollowed := true, recurses := true, named := ["math/bits.divideError", "math/bits.overflowError"], apart := false }
def HoldingBackSaid : Prop := holdingBackRow.holds Tryz.pinned (OpenSpec.ofChange holdingBackSpec)

/-- ITS FALSE NEIGHBOUR: 'it returns false'. Refute it at one input. -/
def holdingBackWrong : ChangeSpec := { name := "holdingBack", fn := fun _ => fun
  | [d1, d2] => { results := [.lit (.bool false)], args := [d1, d2] }
  | _ => none }
def HoldingBackWrongFalsely : Prop := holdingBackRow.holds Tryz.pinned (OpenSpec.ofChange holdingBackWrong)

/- THE SECOND FORM. 'bulk': how many values and letters a reading holds, each counted each time it is reached (what is shared counts as often as it is met; a slice's spare places count too). A statement '..UptoSaid' is the law's where the arguments, and the package variables that the reading takes, are together of bulk at most 1048576: NARROWER than '..Said'. Prove '..Said' where nothing that the law and all that it calls make is longer than what came in: it says more and counts as full. Else prove '..UptoSaid'. A law counts once. -/
mutual
def uptoBulk {H : Type} : DataW H → Nat
  | .lit (.string bytes) => bytes.length + 1
  | .lit _ => 1
  | .nil => 1
  | .ptr d => uptoBulk d + 1
  | .slice elems spare => uptoBulkAll elems + uptoBulkAll spare + 1
  | .agg parts => uptoBulkAll parts + 1
  | .iface _ d => uptoBulk d + 1
  | .map entries => uptoBulkEntries entries + 1
  | .held _ => 1
def uptoBulkAll {H : Type} : List (DataW H) → Nat
  | [] => 0
  | d :: r => uptoBulk d + uptoBulkAll r
def uptoBulkEntries {H : Type} : List (Lit × DataW H) → Nat
  | [] => 0
  | x :: r => uptoBulkEntry x + uptoBulkEntries r
def uptoBulkEntry {H : Type} : Lit × DataW H → Nat
  | (.string bytes, d) => bytes.length + uptoBulk d + 1
  | (_, d) => uptoBulk d + 1
 end
def uptoSmall : (H : Type) → List (DataW H) → Bool := fun _ ds => decide (uptoBulkAll ds ≤ 1048576)
def OpenSpec.upto (s : _root_.Go.ChangeSpec) : _root_.Go.OpenSpec := { _root_.Go.OpenSpec.ofChange s with cond := some uptoSmall }

/-- 'distraintlaw13.HoldingActs', WHERE WHAT IT READS IS OF BULK AT MOST 1048576: true; the input reads as it did. -/
def holdingActsUptoRow : OpenClaim := { program := "ytkinchgjidpjnaagreat", sum := "ecf4360ac46498335aad86388330f10884a400739aeb4367d3151cf8a1a4c8c6", func := "distraint/distraintlaw13.HoldingActs", spec := "holdingActs", inPlace := ["math/bits.Add64", "slices.overlaps[distraint/api.Class]", "slices.overlaps[distraint/api.Position]"], unfollowed := true, recurses := true, named := ["math/bits.divideError", "math/bits.overflowError"], apart := false, narrowed := true }
def HoldingActsUptoSaid : Prop := holdingActsUptoRow.holds Tryz.pinned (OpenSpec.upto holdingActsSpec)

/-- 'distraintlaw13.HoldingKnown', WHERE WHAT IT READS IS OF BULK AT MOST 1048576: true; the input reads as it did. -/
def holdingKnownUptoRow : OpenClaim := { program := "ytkinchgjidpjnaagreat", sum := "ecf4360ac46498335aad86388330f10884a400739aeb4367d3151cf8a1a4c8c6", func := "distraint/distraintlaw13.HoldingKnown", spec := "holdingKnown", inPlace := ["math/bits.Add64", "slices.overlaps[distraint/api.Class]", "slices.overlaps[distraint/api.Position]"], unfollowed := true, recurses := true, named := ["math/bits.divideError", "math/bits.overflowError"], apart := false, narrowed := true }
def HoldingKnownUptoSaid : Prop := holdingKnownUptoRow.holds Tryz.pinned (OpenSpec.upto holdingKnownSpec)

/-- 'distraintlaw13.HoldingTells', WHERE WHAT IT READS IS OF BULK AT MOST 1048576: true; the input reads as it did. -/
def holdingTellsUptoRow : OpenClaim := { program := "ytkinchgjidpjnaagreat", sum := "ecf4360ac46498335aad86388330f10884a400739aeb4367d3151cf8a1a4c8c6", func := "distraint/distraintlaw13.HoldingTells", spec := "holdingTells", inPlace := ["math/bits.Add64", "slices.overlaps[distraint/api.Class]", "slices.overlaps[distraint/api.Position]"], unfollowed := true, recurses := true, named := ["math/bits.divideError", "math/bits.overflowError"], apart := false, narrowed := true }
def HoldingTellsUptoSaid : Prop := holdingTellsUptoRow.holds Tryz.pinned (OpenSpec.upto holdingTellsSpec)

/-- 'distraintlaw13.HoldingSums', WHERE WHAT IT READS IS OF BULK AT MOST 1048576: true; the input reads as it did. -/
def holdingSumsUptoRow : OpenClaim := { program := "ytkinchgjidpjnaagreat", sum := "ecf4360ac46498335aad86388330f10884a400739aeb4367d3151cf8a1a4c8c6", func := "distraint/distraintlaw13.HoldingSums", spec := "holdingSums", inPlace := ["math/bits.Add64", "slices.overlaps[distraint/api.Class]", "slices.overlaps[distraint/api.Position]"], unfollowed := true, recurses := true, named := ["math/bits.divideError", "math/bits.overflowError"], apart := false, narrowed := true }
def HoldingSumsUptoSaid : Prop := holdingSumsUptoRow.holds Tryz.pinned (OpenSpec.upto holdingSumsSpec)

/-- 'distraintlaw13.HoldingBlames', WHERE WHAT IT READS IS OF BULK AT MOST 1048576: true; the input reads as it did. -/
def holdingBlamesUptoRow : OpenClaim := { program := "ytkinchgjidpjnaagreat", sum := "ecf4360ac46498335aad86388330f10884a400739aeb4367d3151cf8a1a4c8c6", func := "distraint/distraintlaw13.HoldingBlames", spec := "holdingBlames", inPlace := ["math/bits.Add64", "slices.overlaps[distraint/api.Class]", "slices.overlaps[distraint/api.Position]"], unfollowed := true, recurses := true, named := ["math/bits.divideError", "math/bits.overflowError"], apart := false, narrowed := true }
def HoldingBlamesUptoSaid : Prop := holdingBlamesUptoRow.holds Tryz.pinned (OpenSpec.upto holdingBlamesSpec)

/-- 'distraintlaw13.HoldingDrifts', WHERE WHAT IT READS IS OF BULK AT MOST 1048576: true; the input reads as it did. -/
def holdingDriftsUptoRow : OpenClaim := { program := "ytkinchgjidpjnaagreat", sum := "ecf4360ac46498335aad86388330f10884a400739aeb4367d3151cf8a1a4c8c6", func := "distraint/distraintlaw13.HoldingDrifts", spec := "holdingDrifts", inPlace := ["math/bits.Add64", "slices.overlaps[distraint/api.Class]", "slices.overlaps[distraint/api.Position]"], unfollowed := true, recurses := true, named := ["math/bits.divideError", "math/bits.overflowError"], apart := false, narrowed := true }
def HoldingDriftsUptoSaid : Prop := holdingDriftsUptoRow.holds Tryz.pinned (OpenSpec.upto holdingDriftsSpec)

/-- 'distraintlaw13.HoldingBytes', WHERE WHAT IT READS IS OF BULK AT MOST 1048576: true; the input reads as it did. -/
def holdingBytesUptoRow : OpenClaim := { program := "ytkinchgjidpjnaagreat", sum := "ecf4360ac46498335aad86388330f10884a400739aeb4367d3151cf8a1a4c8c6", func := "distraint/distraintlaw13.HoldingBytes", spec := "holdingBytes", inPlace := ["math/bits.Add64", "slices.overlaps[distraint/api.Class]", "slices.overlaps[distraint/api.Position]"], unfollowed := true, recurses := true, named := ["math/bits.divideError", "math/bits.overflowError"], apart := false, narrowed := true }
def HoldingBytesUptoSaid : Prop := holdingBytesUptoRow.holds Tryz.pinned (OpenSpec.upto holdingBytesSpec)

/-- 'distraintlaw13.HoldingBack', WHERE WHAT IT READS IS OF BULK AT MOST 1048576: true; the input reads as it did. -/
def holdingBackUptoRow : OpenClaim := { program := "ytkinchgjidpjnaagreat", sum := "ecf4360ac46498335aad86388330f10884a400739aeb4367d3151cf8a1a4c8c6", func := "distraint/distraintlaw13.HoldingBack", spec := "holdingBack", inPlace := ["math/bits.Add64", "slices.overlaps[distraint/api.Class]", "slices.overlaps[distraint/api.Position]"], unfollowed := true, recurses := true, named := ["math/bits.divideError", "math/bits.overflowError"], apart := false, narrowed := true }
def HoldingBackUptoSaid : Prop := holdingBackUptoRow.holds Tryz.pinned (OpenSpec.upto holdingBackSpec)

end Rows
end Go.Proofs.YtkinchgjidpjnaaGreat
