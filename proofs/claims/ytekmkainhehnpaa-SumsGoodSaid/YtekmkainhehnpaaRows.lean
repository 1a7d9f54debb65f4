/-
  No cell of these rows narrows 'for every input' (looked for: loops, veiled, ifaces, maps, wideKeys, modest, calm, conditions, laid).
  DERIVED. THE GIVEN ROWS OF THIS SEAT. 5 by the template 'for every input the law returns true; each argument reads behind the call as it read before'; 0 by the template 'total and deterministic' (their statements: YtekmkainhehnpaaTotals.lean).
  GIVEN WITH THE SEED: the statements are not yours to turn. If you find one false, say at which input.
  Laid BY PROGRAM, IN A SANDBOX (cutbox-rows.mjs): the forced cells as the released guide's own fill.sh prints them over the translation e8d32619c4cf8f98… (all of the seat's roots in one cut). By AI agents, Wed Nov 11 2026. No macro, syntax, notation, axiom, sorry.
-/
import Derived.Test.YtekmkainhehnpaaChecked
import GoSem.Claim
import GoSem.ClaimJoined
import GoSem.ClaimMapViews
import Derived.JoinedTies
import Derived.KernelRfl
namespace Go.Proofs.Ytekmkainhehnpaa
/- THE CELL 'sum', in the pinned program and in every row, IS THE sha256 OF THE DUMP (.gsa) THAT YtekmkainhehnpaaProg.lean LOADS. Nothing in Lean hashes anything: it is a label: what it is worth is what the hold of that sum in a sandbox is worth. -/
noncomputable def Try.pinned : Pinned := { name := "ytekmkainhehnpaa", sum := "e8d32619c4cf8f98eed7301efd9d5b399fb113ffa64153d7d1165f577275328f", checked := Try.checked }
namespace Rows
def none {H : Type} : Left H := { results := [], args := [] }

/-- 'sojournerlaw02.SumsOf': WHATEVER THE INPUT: true; the input reads as it did. -/
def sumsOfSpec : ChangeSpec := { name := "sumsOf", fn := fun _ => fun
  | [d1, d2, d3] => { results := [.lit (.bool true)], args := [d1, d2, d3] }
  | _ => none }
def sumsOfRow : OpenClaim := { program := "ytekmkainhehnpaa", sum := "e8d32619c4cf8f98eed7301efd9d5b399fb113ffa64153d7d1165f577275328f", func := "sojourner/sojournerlaw02.SumsOf", spec := "sumsOf", unfollowed := true, recurses := true, apart := false }
def SumsOfSaid : Prop := sumsOfRow.holds Try.pinned (OpenSpec.ofChange sumsOfSpec)

/-- ITS FALSE NEIGHBOUR: 'it returns false'. Refute it at one input. -/
def sumsOfWrong : ChangeSpec := { name := "sumsOf", fn := fun _ => fun
  | [d1, d2, d3] => { results := [.lit (.bool false)], args := [d1, d2, d3] }
  | _ => none }
def SumsOfWrongFalsely : Prop := sumsOfRow.holds Try.pinned (OpenSpec.ofChange sumsOfWrong)

/-- 'sojournerlaw02.SumsWords': WHATEVER THE INPUT: true; the input reads as it did. -/
def sumsWordsSpec : ChangeSpec := { name := "sumsWords", fn := fun _ => fun
  | [d1, d2] => { results := [.lit (.bool true)], args := [d1, d2] }
  | _ => none }
def sumsWordsRow : OpenClaim := { program := "ytekmkainhehnpaa", sum := "e8d32619c4cf8f98eed7301efd9d5b399fb113ffa64153d7d1165f577275328f", func := "sojourner/sojournerlaw02.SumsWords", spec := "sumsWords", unfollowed := true, recurses := true, apart := false }
def SumsWordsSaid : Prop := sumsWordsRow.holds Try.pinned (OpenSpec.ofChange sumsWordsSpec)

/-- ITS FALSE NEIGHBOUR: 'it returns false'. Refute it at one input. -/
def sumsWordsWrong : ChangeSpec := { name := "sumsWords", fn := fun _ => fun
  | [d1, d2] => { results := [.lit (.bool false)], args := [d1, d2] }
  | _ => none }
def SumsWordsWrongFalsely : Prop := sumsWordsRow.holds Try.pinned (OpenSpec.ofChange sumsWordsWrong)

/-- 'sojournerlaw02.SumsEnds': WHATEVER THE INPUT: true; the input reads as it did. -/
def sumsEndsSpec : ChangeSpec := { name := "sumsEnds", fn := fun _ => fun
  | [d1, d2] => { results := [.lit (.bool true)], args := [d1, d2] }
  | _ => none }
def sumsEndsRow : OpenClaim := { program := "ytekmkainhehnpaa", sum := "e8d32619c4cf8f98eed7301efd9d5b399fb113ffa64153d7d1165f577275328f", func := "sojourner/sojournerlaw02.SumsEnds", spec := "sumsEnds", unfollowed := true, recurses := true, apart := false }
def SumsEndsSaid : Prop := sumsEndsRow.holds Try.pinned (OpenSpec.ofChange sumsEndsSpec)

/-- ITS FALSE NEIGHBOUR: 'it returns false'. Refute it at one input. -/
def sumsEndsWrong : ChangeSpec := { name := "sumsEnds", fn := fun _ => fun
  | [d1, d2] => { results := [.lit (.bool false)], args := [d1, d2] }
  | _ => none }
def SumsEndsWrongFalsely : Prop := sumsEndsRow.holds Try.pinned (OpenSpec.ofChange sumsEndsWrong)

/-- 'sojournerlaw02.SumsOver': WHATEVER THE INPUT: true; the input reads as it did. -/
def sumsOverSpec : ChangeSpec := { name := "sumsOver", fn := fun _ => fun
  | [d1, d2] => { results := [.lit (.bool true)], args := [d1, d2] }
  | _ => none }
def sumsOverRow : OpenClaim := { program := "ytekmkainhehnpaa", sum := "e8d32619c4cf8f98eed7301efd9d5b399fb113ffa64153d7d1165f577275328f", func := "sojourner/sojournerlaw02.SumsOver", spec := "sumsOver", unfollowed := true, recurses := true, apart := false }
def SumsOverSaid : Prop := sumsOverRow.holds Try.pinned (OpenSpec.ofChange sumsOverSpec)

/-- ITS FALSE NEIGHBOUR: 'it returns false'. Refute it at one input. -/
def sumsOverWrong : ChangeSpec := { name := "sumsOver", fn := fun _ => fun
  | [d1, d2] => { results := [.lit (.bool false)], args := [d1, d2] }
  | _ => none }
def SumsOverWrongFalsely : Prop := sumsOverRow.holds Try.pinned (OpenSpec.ofChange sumsOverWrong)

/-- 'sojournerlaw02.SumsGood': WHATEVER THE INPUT: true; the input reads as it did. -/
def sumsGoodSpec : ChangeSpec := { name := "sumsGood", fn := fun _ => fun
  | [d1, d2, d3] => { results := [.lit (.bool true)], args := [d1, d2, d3] }
  | _ => none }
def sumsGoodRow : OpenClaim := { program := "ytekmkainhehnpaa", sum := "e8d32619c4cf8f98eed7301efd9d5b399fb113ffa64153d7d1165f577275328f", func := "sojourner/sojournerlaw02.SumsGood", spec := "sumsGood", unfollowed := true, recurses := true, apart := false }
def SumsGoodSaid : Prop := sumsGoodRow.holds Try.pinned (OpenSpec.ofChange sumsGoodSpec)

/-- ITS FALSE NEIGHBOUR: 'it returns false'. Refute it at one input. -/
def sumsGoodWrong : ChangeSpec := { name := "sumsGood", fn := fun _ => fun
  | [d1, d2, d3] => { results := [.lit (.bool false)], args := [d1, d2, d3] }
  | _ => none }
def SumsGoodWrongFalsely : Prop := sumsGoodRow.holds Try.pinned (OpenSpec.ofChange sumsGoodWrong)

/- THE SECOND FORM. 'bulk': how many values and letters a reading holds, each counted each time it is reached (what is shared counts as often as it is met; a slice's spare places count too). A statement '..UptoSaid' is the law's where the arguments, and the package variables that the reading takes, are together of bulk at most 1048576: NARROWER than '..Said'. Prove '..Said' where nothing that the law and all that it calls make is longer than what came in: it says more and counts as full. Else prove '..UptoSaid'. A law counts once. -/
mutual
def uptoBulk {H : Type} : DataW H → Nat
  | .lit (.string bytes) => bytes.length + 1
  | .lit _ => 1
  | .nil => 1
  | .ptr d => uptoBulk d + 1
  | .slice elems spare => uptoBulkAll elems + uptoBulkAll spare + 1
  | .agg parts => uptoBulkAll parts + 1
  | .iface _ d => uptoBulk d + 1
  | .map entries => uptoBulkEntries entries + 1
  | .held _ => 1
def uptoBulkAll {H : Type} : List (DataW H) → Nat
  | [] => 0
  | d :: r => uptoBulk d + uptoBulkAll r
def uptoBulkEntries {H : Type} : List (Lit × DataW H) → Nat
  | [] => 0
  | x :: r => uptoBulkEntry x + uptoBulkEntries r
def uptoBulkEntry {H : Type} : Lit × DataW H → Nat
  | (.string bytes, d) => bytes.length + uptoBulk d + 1
  | (_, d) => uptoBulk d + 1
 end
def uptoSmall : (H : Type) → List (DataW H) → Bool := fun _ ds => decide (uptoBulkAll ds ≤ 1048576)
def OpenSpec.upto (s : _root_.Go.ChangeSpec) : _root_.Go.OpenSpec := { _root_.Go.OpenSpec.ofChange s with cond := some uptoSmall }

/-- 'sojournerlaw02.SumsOf', WHERE WHAT IT READS IS OF BULK AT MOST 1048576: true; the input reads as it did. -/
def sumsOfUptoRow : OpenClaim := { program := "ytekmkainhehnpaa", sum := "e8d32619c4cf8f98eed7301efd9d5b399fb113ffa64153d7d1165f577275328f", func := "sojourner/sojournerlaw02.SumsOf", spec := "sumsOf", unfollowed := true, recurses := true, apart := false, narrowed := true }
def SumsOfUptoSaid : Prop := sumsOfUptoRow.holds Try.pinned (OpenSpec.upto sumsOfSpec)

/-- 'sojournerlaw02.SumsWords', WHERE WHAT IT READS IS OF BULK AT MOST 1048576: true; the input reads as it did. -/
def sumsWordsUptoRow : OpenClaim := { program := "ytekmkainhehnpaa", sum := "e8d32619c4cf8f98eed7301efd9d5b399fb113ffa64153d7d1165f577275328f", func := "sojourner/sojournerlaw02.SumsWords", spec := "sumsWords", unfollowed := true, recurses := true, apart := false, narrowed := true }
def SumsWordsUptoSaid : Prop := sumsWordsUptoRow.holds Try.pinned (OpenSpec.upto sumsWordsSpec)

/-- 'sojournerlaw02.SumsEnds', WHERE WHAT IT READS IS OF BULK AT MOST 1048576: true; the input reads as it did. -/
def sumsEndsUptoRow : OpenClaim := { program := "ytekmkainhehnpaa", sum := "e8d32619c4cf8f98eed7301efd9d5b399fb113ffa64153d7d1165f577275328f", func := "sojourner/sojournerlaw02.SumsEnds", spec := "sumsEnds", unfollowed := true, recurses := true, apart := false, narrowed := true }
def SumsEndsUptoSaid : Prop := sumsEndsUptoRow.holds Try.pinned (OpenSpec.upto sumsEndsSpec)

/-- 'sojournerlaw02.SumsOver', WHERE WHAT IT READS IS OF BULK AT MOST 1048576: true; the input reads as it did. -/
def sumsOverUptoRow : OpenClaim := { program := "ytekmkainhehnpaa", sum := "e8d32619c4cf8f98eed7301efd9d5b399fb113ffa64153d7d1165f577275328f", func := "sojourner/sojournerlaw02.SumsOver", spec := "sumsOver", unfollowed := true, recurses := true, apart := false, narrowed := true }
def SumsOverUptoSaid : Prop := sumsOverUptoRow.holds Try.pinned (OpenSpec.upto sumsOverSpec)

/-- 'sojournerlaw02.SumsGood', WHERE WHAT IT READS IS OF BULK AT MOST 1048576: true; the input reads as it did. -/
def sumsGoodUptoRow : OpenClaim := { program := "ytekmkainhehnpaa", sum := "e8d32619c4cf8f98eed7301efd9d5b399fb113ffa64153d7d1165f577275328f", func := "sojourner/sojournerlaw02.SumsGood", spec := "sumsGood", unfollowed := true, recurses := true, apart := false, narrowed := true }
def SumsGoodUptoSaid : Prop := sumsGoodUptoRow.holds Try.pinned (OpenSpec.upto sumsGoodSpec)

end Rows
end Go.Proofs.Ytekmkainhehnpaa
