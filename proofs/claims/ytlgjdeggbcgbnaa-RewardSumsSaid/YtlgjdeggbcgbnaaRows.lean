/-
  No cell of these rows narrows 'for every input' (looked for: loops, veiled, ifaces, maps, wideKeys, modest, calm, conditions, laid).
  DERIVED. THE GIVEN ROWS OF THIS SEAT. 5 by the template 'for every input the law returns true; each argument reads behind the call as it read before'; 0 by the template 'total and deterministic' (their statements: YtlgjdeggbcgbnaaTotals.lean).
  GIVEN WITH THE SEED: the statements are not yours to turn. If you find one false, say at which input.
  Laid BY PROGRAM, IN A SANDBOX (cutbox-rows.mjs): the forced cells as the released guide's own fill.sh prints them over the translation 13676ddb0c8f374b… (all of the seat's roots in one cut). By AI agents, Wed Nov 11 2026. No macro, syntax, notation, axiom, sorry.
-/
import Derived.Test.YtlgjdeggbcgbnaaChecked
import GoSem.Claim
import GoSem.ClaimJoined
import GoSem.ClaimMapViews
import Derived.JoinedTies
import Derived.KernelRfl
namespace Go.Proofs.Ytlgjdeggbcgbnaa
/- THE CELL 'sum', in the pinned program and in every row, IS THE sha256 OF THE DUMP (.gsa) THAT YtlgjdeggbcgbnaaProg.lean LOADS. Nothing in Lean hashes anything: it is a label: what it is worth is what the hold of that sum in a sandbox is worth. -/
noncomputable def Try.pinned : Pinned := { name := "ytlgjdeggbcgbnaa", sum := "13676ddb0c8f374bc356a3861ed86b03f917c51bdd9d38d55eba37c05e6327ed", checked := Try.checked }
namespace Rows
def none {H : Type} : Left H := { results := [], args := [] }

/-- 'distraintlaw24.RewardTells': WHATEVER THE INPUT: true; the input reads as it did. -/
def rewardTellsSpec : ChangeSpec := { name := "rewardTells", fn := fun _ => fun
  | [d1, d2, d3, d4, d5] => { results := [.lit (.bool true)], args := [d1, d2, d3, d4, d5] }
  | _ => none }
def rewardTellsRow : OpenClaim := { program := "ytlgjdeggbcgbnaa", sum := "13676ddb0c8f374bc356a3861ed86b03f917c51bdd9d38d55eba37c05e6327ed", func := "distraint/distraintlaw24.RewardTells", spec := "rewardTells", inPlace := ["math/bits.Add64"], unfollowed := true, recurses := true, named := ["math/bits.divideError", "math/bits.overflowError"], apart := false }
def RewardTellsSaid : Prop := rewardTellsRow.holds Try.pinned (OpenSpec.ofChange rewardTellsSpec)

/-- ITS FALSE NEIGHBOUR: 'it returns false'. Refute it at one input. -/
def rewardTellsWrong : ChangeSpec := { name := "rewardTells", fn := fun _ => fun
  | [d1, d2, d3, d4, d5] => { results := [.lit (.bool false)], args := [d1, d2, d3, d4, d5] }
  | _ => none }
def RewardTellsWrongFalsely : Prop := rewardTellsRow.holds Try.pinned (OpenSpec.ofChange rewardTellsWrong)

/-- 'distraintlaw24.RewardBytes': WHATEVER THE INPUT: true; the input reads as it did. -/
def rewardBytesSpec : ChangeSpec := { name := "rewardBytes", fn := fun _ => fun
  | [d1, d2, d3] => { results := [.lit (.bool true)], args := [d1, d2, d3] }
  | _ => none }
def rewardBytesRow : OpenClaim := { program := "ytlgjdeggbcgbnaa", sum := "13676ddb0c8f374bc356a3861ed86b03f917c51bdd9d38d55eba37c05e6327ed", func := "distraint/distraintlaw24.RewardBytes", spec := "rewardBytes", inPlace := ["math/bits.Add64"], unfollowed := true, recurses := true, named := ["math/bits.divideError", "math/bits.overflowError"], apart := false }
def RewardBytesSaid : Prop := rewardBytesRow.holds Try.pinned (OpenSpec.ofChange rewardBytesSpec)

/-- ITS FALSE NEIGHBOUR: 'it returns false'. Refute it at one input. -/
def rewardBytesWrong : ChangeSpec := { name := "rewardBytes", fn := fun _ => fun
  | [d1, d2, d3] => { results := [.lit (.bool false)], args := [d1, d2, d3] }
  | _ => none }
def RewardBytesWrongFalsely : Prop := rewardBytesRow.holds Try.pinned (OpenSpec.ofChange rewardBytesWrong)

/-- 'distraintlaw24.RewardKnown': WHATEVER THE INPUT: true; the input reads as it did. -/
def rewardKnownSpec : ChangeSpec := { name := "rewardKnown", fn := fun _ => fun
  | [] => { results := [.lit (.bool true)], args := [] }
  | _ => none }
def rewardKnownRow : OpenClaim := { program := "ytlgjdeggbcgbnaa", sum := "13676ddb0c8f374bc356a3861ed86b03f917c51bdd9d38d55eba37c05e6327ed", func := "distraint/distraintlaw24.RewardKnown", spec := "rewardKnown", inPlace := ["math/bits.Add64"], unfollowed := true, recurses := true, named := ["math/bits.divideError", "math/bits.overflowError"], apart := false }
def RewardKnownSaid : Prop := rewardKnownRow.holds Try.pinned (OpenSpec.ofChange rewardKnownSpec)

/-- ITS FALSE NEIGHBOUR: 'it returns false'. Refute it at one input. -/
def rewardKnownWrong : ChangeSpec := { name := "rewardKnown", fn := fun _ => fun
  | [] => { results := [.lit (.bool false)], args := [] }
  | _ => none }
def RewardKnownWrongFalsely : Prop := rewardKnownRow.holds Try.pinned (OpenSpec.ofChange rewardKnownWrong)

/-- 'distraintlaw24.RewardSums': WHATEVER THE INPUT: true; the input reads as it did. -/
def rewardSumsSpec : ChangeSpec := { name := "rewardSums", fn := fun _ => fun
  | [d1, d2, d3, d4] => { results := [.lit (.bool true)], args := [d1, d2, d3, d4] }
  | _ => none }
def rewardSumsRow : OpenClaim := { program := "ytlgjdeggbcgbnaa", sum := "13676ddb0c8f374bc356a3861ed86b03f917c51bdd9d38d55eba37c05e6327ed", func := "distraint/distraintlaw24.RewardSums", spec := "rewardSums", inPlace := ["math/bits.Add64"], unfollowed := true, recurses := true, named := ["math/bits.divideError", "math/bits.overflowError"], apart := false }
def RewardSumsSaid : Prop := rewardSumsRow.holds Try.pinned (OpenSpec.ofChange rewardSumsSpec)

/-- ITS FALSE NEIGHBOUR: 'it returns false'. Refute it at one input. -/
def rewardSumsWrong : ChangeSpec := { name := "rewardSums", fn := fun _ => fun
  | [d1, d2, d3, d4] => { results := [.lit (.bool false)], args := [d1, d2, d3, d4] }
  | _ => none }
def RewardSumsWrongFalsely : Prop := rewardSumsRow.holds Try.pinned (OpenSpec.ofChange rewardSumsWrong)

/-- 'distraintlaw24.RewardBack': WHATEVER THE INPUT: true; the input reads as it did. -/
def rewardBackSpec : ChangeSpec := { name := "rewardBack", fn := fun _ => fun
  | [d1, d2] => { results := [.lit (.bool true)], args := [d1, d2] }
  | _ => none }
def rewardBackRow : OpenClaim := { program := "ytlgjdeggbcgbnaa", sum := "13676ddb0c8f374bc356a3861ed86b03f917c51bdd9d38d55eba37c05e6327ed", func := "distraint/distraintlaw24.RewardBack", spec := "rewardBack", inPlace := ["math/bits.Add64"], unfollowed := true, recurses := true, named := ["math/bits.divideError", "math/bits.overflowError"], apart := false }
def RewardBackSaid : Prop := rewardBackRow.holds Try.pinned (OpenSpec.ofChange rewardBackSpec)

/-- ITS FALSE NEIGHBOUR: 'it returns false'. Refute it at one input. -/
def rewardBackWrong : ChangeSpec := { name := "rewardBack", fn := fun _ => fun
  | [d1, d2] => { results := [.lit (.bool false)], args := [d1, d2] }
  | _ => none }
def RewardBackWrongFalsely : Prop := rewardBackRow.holds Try.pinned (OpenSpec.ofChange rewardBackWrong)

/- THE SECOND FORM. 'bulk': how many values and letters a reading holds, each counted each time it is reached (what is shared counts as often as it is met; a slice's spare places count too). A statement '..UptoSaid' is the law's where the arguments, and the package variables that the reading takes, are together of bulk at most 1048576: NARROWER than '..Said'. Prove '..Said' where nothing that the law and all that it calls make is longer than what came in: it says more and counts as full. Else prove '..UptoSaid'. A law counts once. -/
mutual
def uptoBulk {H : Type} : DataW H → Nat
  | .lit (.string bytes) => bytes.length + 1
  | .lit _ => 1
  | .nil => 1
  | .ptr d => uptoBulk d + 1
  | .slice elems spare => uptoBulkAll elems + uptoBulkAll spare + 1
  | .agg parts => uptoBulkAll parts + 1
  | .iface _ d => uptoBulk d + 1
  | .map entries => uptoBulkEntries entries + 1
  | .held _ => 1
def uptoBulkAll {H : Type} : List (DataW H) → Nat
  | [] => 0
  | d :: r => uptoBulk d + uptoBulkAll r
def uptoBulkEntries {H : Type} : List (Lit × DataW H) → Nat
  | [] => 0
  | x :: r => uptoBulkEntry x + uptoBulkEntries r
def uptoBulkEntry {H : Type} : Lit × DataW H → Nat
  | (.string bytes, d) => bytes.length + uptoBulk d + 1
  | (_, d) => uptoBulk d + 1
 end
def uptoSmall : (H : Type) → List (DataW H) → Bool := fun _ ds => decide (uptoBulkAll ds ≤ 1048576)
def OpenSpec.upto (s : _root_.Go.ChangeSpec) : _root_.Go.OpenSpec := { _root_.Go.OpenSpec.ofChange s with cond := some uptoSmall }

/-- 'distraintlaw24.RewardTells', WHERE WHAT IT READS IS OF BULK AT MOST 1048576: true; the input reads as it did. -/
def rewardTellsUptoRow : OpenClaim := { program := "ytlgjdeggbcgbnaa", sum := "13676ddb0c8f374bc356a3861ed86b03f917c51bdd9d38d55eba37c05e6327ed", func := "distraint/distraintlaw24.RewardTells", spec := "rewardTells", inPlace := ["math/bits.Add64"], unfollowed := true, recurses := true, named := ["math/bits.divideError", "math/bits.overflowError"], apart := false, narrowed := true }
def RewardTellsUptoSaid : Prop := rewardTellsUptoRow.holds Try.pinned (OpenSpec.upto rewardTellsSpec)

/-- 'distraintlaw24.RewardBytes', WHERE WHAT IT READS IS OF BULK AT MOST 1048576: true; the input reads as it did. -/
def rewardBytesUptoRow : OpenClaim := { program := "ytlgjdeggbcgbnaa", sum := "13676ddb0c8f374bc356a3861ed86b03f917c51bdd9d38d55eba37c05e6327ed", func := "distraint/distraintlaw24.RewardBytes", spec := "rewardBytes", inPlace := ["math/bits.Add64"], unfollowed := true, recurses := true, named := ["math/bits.divideError", "math/bits.overflowError"], apart := false, narrowed := true }
def RewardBytesUptoSaid : Prop := rewardBytesUptoRow.holds Try.pinned (OpenSpec.upto rewardBytesSpec)

/-- 'distraintlaw24.RewardKnown', WHERE WHAT IT READS IS OF BULK AT MOST 1048576: true; the input reads as it did. -/
def rewardKnownUptoRow : OpenClaim := { program := "ytlgjdeggbcgbnaa", sum := "13676ddb0c8f374bc356a3861ed86b03f917c51bdd9d38d55eba37c05e6327ed", func := "distraint/distraintlaw24.RewardKnown", spec := "rewardKnown", inPlace := ["math/bits.Add64"], unfollowed := true, recurses := true, named := ["math/bits.divideError", "math/bits.overflowError"], apart := false, narrowed := true }
def RewardKnownUptoSaid : Prop := rewardKnownUptoRow.holds Try.pinned (OpenSpec.upto rewardKnownSpec)

/-- 'distraintlaw24.RewardSums', WHERE WHAT IT READS IS OF BULK AT MOST 1048576: true; the input reads as it did. -/
def rewardSumsUptoRow : OpenClaim := { program := "ytlgjdeggbcgbnaa", sum := "13676ddb0c8f374bc356a3861ed86b03f917c51bdd9d38d55eba37c05e6327ed", func := "distraint/distraintlaw24.RewardSums", spec := "rewardSums", inPlace := ["math/bits.Add64"], unfollowed := true, recurses := true, named := ["math/bits.divideError", "math/bits.overflowError"], apart := false, narrowed := true }
def RewardSumsUptoSaid : Prop := rewardSumsUptoRow.holds Try.pinned (OpenSpec.upto rewardSumsSpec)

/-- 'distraintlaw24.RewardBack', WHERE WHAT IT READS IS OF BULK AT MOST 1048576: true; the input reads as it did. -/
def rewardBackUptoRow : OpenClaim := { program := "ytlgjdeggbcgbnaa", sum := "13676ddb0c8f374bc356a3861ed86b03f917c51bdd9d38d55eba37c05e6327ed", func := "distraint/distraintlaw24.RewardBack", spec := "rewardBack", inPlace := ["math/bits.Add64"], unfollowed := true, recurses := true, named := ["math/bits.divideError", "math/bits.overflowError"], apart := false, narrowed := true }
def RewardBackUptoSaid : Prop := rewardBackUptoRow.holds Try.pinned (OpenSpec.upto rewardBackSpec)

end Rows
end Go.Proofs.Ytlgjdeggbcgbnaa
