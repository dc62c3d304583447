/- The kit's Great, digit, trim, LessGreat, SameGreat do on great numbers what their names say. -/
import Derived.Test.YtlgjdeggbcgbnaaRows
import Derived.Test.YtlgjdeggbcgbnaaFixSpec
import Derived.Test.YtlgjdeggbcgbnaaMem
import Derived.Test.YtlgjdeggbcgbnaaGreatMath
import Derived.WalkSpells
import Derived.WalkLawsBesides
import Derived.Lib.Hide
import Derived.Deep.QuietTactic
import Derived.Deep.LoopGhost
import Derived.Deep.DeepCutAuto
import Derived.Deep.CutBlock
import Derived.BigQuiet
set_option linter.unusedVariables false
set_option linter.unusedSimpArgs false
namespace Go.Proofs.Ytlgjdeggbcgbnaa
open Go.RowKit Gr

theorem u64_info : (Try.prog.info? 23).map (fun i => (i.zero, i.size, i.bytes)) = some (some (.int .u64 0), 1, 8) := by kernel_rfl

/-- the slice is a great number -/
structure IsGr (w : World) (A : Option Addr) (n c : Nat) (l : List Int) (N : Int) : Prop where
  sl : Sl w 1 A n c (iv .u64 l)
  dig : Dig l
  nor : Nor l
  eq : val l = N
/-- a great number is returned; nothing that was there has turned -/
def GrRet (N : Int) (w : World) (e : Ending) (w' : World) : Prop := ∃ A n c l, e = .returned (.slice A n c) ∧ IsGr w' A n c l N ∧ Ext w w'

/-- what trim leaves -/
def TrimRet (A : Option Addr) (c : Nat) (l : List Int) (w : World) (e : Ending) (w' : World) : Prop :=
  ∃ m, e = .returned (.slice A m c) ∧ m ≤ l.length ∧ Nor (l.take m) ∧ val (l.take m) = val l ∧ w = w'
theorem IsGr.drw {w w' : World} {A : Option Addr} {n c : Nat} {l : List Int} {N : Int} (h : IsGr w A n c l N) (hd : Drw w w') : IsGr w' A n c l N := ⟨h.sl.ext hd.ext, h.dig, h.nor, h.eq⟩
theorem IsGr.ext {w w' : World} {A : Option Addr} {n c : Nat} {l : List Int} {N : Int} (h : IsGr w A n c l N) (hd : Ext w w') : IsGr w' A n c l N := ⟨h.sl.ext hd, h.dig, h.nor, h.eq⟩
end Go.Proofs.Ytlgjdeggbcgbnaa
