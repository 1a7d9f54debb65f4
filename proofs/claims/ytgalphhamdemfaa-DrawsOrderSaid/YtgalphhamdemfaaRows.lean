/-
  No cell of these rows narrows 'for every input' (looked for: loops, veiled, ifaces, maps, wideKeys, modest, calm, conditions, laid).
  DERIVED. THE GIVEN ROWS OF THIS SEAT. 4 by the template 'for every input the law returns true; each argument reads behind the call as it read before'; 0 by the template 'total and deterministic' (their statements: YtgalphhamdemfaaTotals.lean).
  GIVEN WITH THE SEED: the statements are not yours to turn. If you find one false, say at which input.
  Laid BY PROGRAM, IN A SANDBOX (cutbox-rows.mjs): the forced cells as the released guide's own fill.sh prints them over the translation c29d3df180fce93e… (all of the seat's roots in one cut). By AI agents, Wed Nov 11 2026. No macro, syntax, notation, axiom, sorry.
-/
import Derived.Test.YtgalphhamdemfaaChecked
import GoSem.Claim
import GoSem.ClaimJoined
import GoSem.ClaimMapViews
import Derived.JoinedTies
import Derived.KernelRfl
namespace Go.Proofs.Ytgalphhamdemfaa
/- THE CELL 'sum', in the pinned program and in every row, IS THE sha256 OF THE DUMP (.gsa) THAT YtgalphhamdemfaaProg.lean LOADS. Nothing in Lean hashes anything: it is a label: what it is worth is what the hold of that sum in a sandbox is worth. -/
noncomputable def Try.pinned : Pinned := { name := "ytgalphhamdemfaa", sum := "c29d3df180fce93e53a441540916c362e7ded86008d06a919b30e9c21b095066", checked := Try.checked }
namespace Rows
def none {H : Type} : Left H := { results := [], args := [] }

/-- 'sojournerlaw04.DrawsPlay': WHATEVER THE INPUT: true; the input reads as it did. -/
def drawsPlaySpec : ChangeSpec := { name := "drawsPlay", fn := fun _ => fun
  | [d] => { results := [.lit (.bool true)], args := [d] }
  | _ => none }
def drawsPlayRow : OpenClaim := { program := "ytgalphhamdemfaa", sum := "c29d3df180fce93e53a441540916c362e7ded86008d06a919b30e9c21b095066", func := "sojourner/sojournerlaw04.DrawsPlay", spec := "drawsPlay", apart := false }
def DrawsPlaySaid : Prop := drawsPlayRow.holds Try.pinned (OpenSpec.ofChange drawsPlaySpec)

/-- ITS FALSE NEIGHBOUR: 'it returns false'. Refute it at one input. -/
def drawsPlayWrong : ChangeSpec := { name := "drawsPlay", fn := fun _ => fun
  | [d] => { results := [.lit (.bool false)], args := [d] }
  | _ => none }
def DrawsPlayWrongFalsely : Prop := drawsPlayRow.holds Try.pinned (OpenSpec.ofChange drawsPlayWrong)

/-- 'sojournerlaw04.DrawsVoid': WHATEVER THE INPUT: true; the input reads as it did. -/
def drawsVoidSpec : ChangeSpec := { name := "drawsVoid", fn := fun _ => fun
  | [d1, d2] => { results := [.lit (.bool true)], args := [d1, d2] }
  | _ => none }
def drawsVoidRow : OpenClaim := { program := "ytgalphhamdemfaa", sum := "c29d3df180fce93e53a441540916c362e7ded86008d06a919b30e9c21b095066", func := "sojourner/sojournerlaw04.DrawsVoid", spec := "drawsVoid", apart := false }
def DrawsVoidSaid : Prop := drawsVoidRow.holds Try.pinned (OpenSpec.ofChange drawsVoidSpec)

/-- ITS FALSE NEIGHBOUR: 'it returns false'. Refute it at one input. -/
def drawsVoidWrong : ChangeSpec := { name := "drawsVoid", fn := fun _ => fun
  | [d1, d2] => { results := [.lit (.bool false)], args := [d1, d2] }
  | _ => none }
def DrawsVoidWrongFalsely : Prop := drawsVoidRow.holds Try.pinned (OpenSpec.ofChange drawsVoidWrong)

/-- 'sojournerlaw04.DrawsOrder': WHATEVER THE INPUT: true; the input reads as it did. -/
def drawsOrderSpec : ChangeSpec := { name := "drawsOrder", fn := fun _ => fun
  | [d] => { results := [.lit (.bool true)], args := [d] }
  | _ => none }
def drawsOrderRow : OpenClaim := { program := "ytgalphhamdemfaa", sum := "c29d3df180fce93e53a441540916c362e7ded86008d06a919b30e9c21b095066", func := "sojourner/sojournerlaw04.DrawsOrder", spec := "drawsOrder", apart := false }
def DrawsOrderSaid : Prop := drawsOrderRow.holds Try.pinned (OpenSpec.ofChange drawsOrderSpec)

/-- ITS FALSE NEIGHBOUR: 'it returns false'. Refute it at one input. -/
def drawsOrderWrong : ChangeSpec := { name := "drawsOrder", fn := fun _ => fun
  | [d] => { results := [.lit (.bool false)], args := [d] }
  | _ => none }
def DrawsOrderWrongFalsely : Prop := drawsOrderRow.holds Try.pinned (OpenSpec.ofChange drawsOrderWrong)

/-- 'sojournerlaw04.DrawsBelow': WHATEVER THE INPUT: true; the input reads as it did. -/
def drawsBelowSpec : ChangeSpec := { name := "drawsBelow", fn := fun _ => fun
  | [d1, d2, d3] => { results := [.lit (.bool true)], args := [d1, d2, d3] }
  | _ => none }
def drawsBelowRow : OpenClaim := { program := "ytgalphhamdemfaa", sum := "c29d3df180fce93e53a441540916c362e7ded86008d06a919b30e9c21b095066", func := "sojourner/sojournerlaw04.DrawsBelow", spec := "drawsBelow", apart := false }
def DrawsBelowSaid : Prop := drawsBelowRow.holds Try.pinned (OpenSpec.ofChange drawsBelowSpec)

/-- ITS FALSE NEIGHBOUR: 'it returns false'. Refute it at one input. -/
def drawsBelowWrong : ChangeSpec := { name := "drawsBelow", fn := fun _ => fun
  | [d1, d2, d3] => { results := [.lit (.bool false)], args := [d1, d2, d3] }
  | _ => none }
def DrawsBelowWrongFalsely : Prop := drawsBelowRow.holds Try.pinned (OpenSpec.ofChange drawsBelowWrong)

/- THE SECOND FORM. 'bulk': how many values and letters a reading holds, each counted each time it is reached (what is shared counts as often as it is met; a slice's spare places count too). A statement '..UptoSaid' is the law's where the arguments, and the package variables that the reading takes, are together of bulk at most 1048576: NARROWER than '..Said'. Prove '..Said' where nothing that the law and all that it calls make is longer than what came in: it says more and counts as full. Else prove '..UptoSaid'. A law counts once. -/
mutual
def uptoBulk {H : Type} : DataW H → Nat
  | .lit (.string bytes) => bytes.length + 1
  | .lit _ => 1
  | .nil => 1
  | .ptr d => uptoBulk d + 1
  | .slice elems spare => uptoBulkAll elems + uptoBulkAll spare + 1
  | .agg parts => uptoBulkAll parts + 1
  | .iface _ d => uptoBulk d + 1
  | .map entries => uptoBulkEntries entries + 1
  | .held _ => 1
def uptoBulkAll {H : Type} : List (DataW H) → Nat
  | [] => 0
  | d :: r => uptoBulk d + uptoBulkAll r
def uptoBulkEntries {H : Type} : List (Lit × DataW H) → Nat
  | [] => 0
  | x :: r => uptoBulkEntry x + uptoBulkEntries r
def uptoBulkEntry {H : Type} : Lit × DataW H → Nat
  | (.string bytes, d) => bytes.length + uptoBulk d + 1
  | (_, d) => uptoBulk d + 1
 end
def uptoSmall : (H : Type) → List (DataW H) → Bool := fun _ ds => decide (uptoBulkAll ds ≤ 1048576)
def OpenSpec.upto (s : _root_.Go.ChangeSpec) : _root_.Go.OpenSpec := { _root_.Go.OpenSpec.ofChange s with cond := some uptoSmall }

/-- 'sojournerlaw04.DrawsPlay', WHERE WHAT IT READS IS OF BULK AT MOST 1048576: true; the input reads as it did. -/
def drawsPlayUptoRow : OpenClaim := { program := "ytgalphhamdemfaa", sum := "c29d3df180fce93e53a441540916c362e7ded86008d06a919b30e9c21b095066", func := "sojourner/sojournerlaw04.DrawsPlay", spec := "drawsPlay", apart := false, narrowed := true }
def DrawsPlayUptoSaid : Prop := drawsPlayUptoRow.holds Try.pinned (OpenSpec.upto drawsPlaySpec)

/-- 'sojournerlaw04.DrawsVoid', WHERE WHAT IT READS IS OF BULK AT MOST 1048576: true; the input reads as it did. -/
def drawsVoidUptoRow : OpenClaim := { program := "ytgalphhamdemfaa", sum := "c29d3df180fce93e53a441540916c362e7ded86008d06a919b30e9c21b095066", func := "sojourner/sojournerlaw04.DrawsVoid", spec := "drawsVoid", apart := false, narrowed := true }
def DrawsVoidUptoSaid : Prop := drawsVoidUptoRow.holds Try.pinned (OpenSpec.upto drawsVoidSpec)

/-- 'sojournerlaw04.DrawsOrder', WHERE WHAT IT READS IS OF BULK AT MOST 1048576: true; the input reads as it did. -/
def drawsOrderUptoRow : OpenClaim := { program := "ytgalphhamdemfaa", sum := "c29d3df180fce93e53a441540916c362e7ded86008d06a919b30e9c21b095066", func := "sojourner/sojournerlaw04.DrawsOrder", spec := "drawsOrder", apart := false, narrowed := true }
def DrawsOrderUptoSaid : Prop := drawsOrderUptoRow.holds Try.pinned (OpenSpec.upto drawsOrderSpec)

/-- 'sojournerlaw04.DrawsBelow', WHERE WHAT IT READS IS OF BULK AT MOST 1048576: true; the input reads as it did. -/
def drawsBelowUptoRow : OpenClaim := { program := "ytgalphhamdemfaa", sum := "c29d3df180fce93e53a441540916c362e7ded86008d06a919b30e9c21b095066", func := "sojourner/sojournerlaw04.DrawsBelow", spec := "drawsBelow", apart := false, narrowed := true }
def DrawsBelowUptoSaid : Prop := drawsBelowUptoRow.holds Try.pinned (OpenSpec.upto drawsBelowSpec)

end Rows
end Go.Proofs.Ytgalphhamdemfaa
