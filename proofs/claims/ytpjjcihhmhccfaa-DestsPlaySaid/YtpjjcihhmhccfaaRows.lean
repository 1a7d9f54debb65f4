/-
  No cell of these rows narrows 'for every input' (looked for: loops, veiled, ifaces, maps, wideKeys, modest, calm, conditions, laid).
  DERIVED. THE GIVEN ROWS OF THIS SEAT. 5 by the template 'for every input the law returns true; each argument reads behind the call as it read before'; 0 by the template 'total and deterministic' (their statements: YtpjjcihhmhccfaaTotals.lean).
  GIVEN WITH THE SEED: the statements are not yours to turn. If you find one false, say at which input.
  Laid BY PROGRAM, IN A SANDBOX (cutbox-rows.mjs): the forced cells as the released guide's own fill.sh prints them over the translation f636b1b85b7a1cb7… (all of the seat's roots in one cut). By AI agents, Wed Nov 11 2026. No macro, syntax, notation, axiom, sorry.
-/
import Derived.Test.YtpjjcihhmhccfaaChecked
import GoSem.Claim
import GoSem.ClaimJoined
import GoSem.ClaimMapViews
import Derived.JoinedTies
import Derived.KernelRfl
namespace Go.Proofs.Ytpjjcihhmhccfaa
/- THE CELL 'sum', in the pinned program and in every row, IS THE sha256 OF THE DUMP (.gsa) THAT YtpjjcihhmhccfaaProg.lean LOADS. Nothing in Lean hashes anything: it is a label: what it is worth is what the hold of that sum in a sandbox is worth. -/
noncomputable def Try.pinned : Pinned := { name := "ytpjjcihhmhccfaa", sum := "f636b1b85b7a1cb7528ffbf5399580742bb33edaf47ffd97873df8dd889a9961", checked := Try.checked }
namespace Rows
def none {H : Type} : Left H := { results := [], args := [] }

/-- 'sojournerlaw21.DestsFalls': WHATEVER THE INPUT: true; the input reads as it did. -/
def destsFallsSpec : ChangeSpec := { name := "destsFalls", fn := fun _ => fun
  | [d1, d2] => { results := [.lit (.bool true)], args := [d1, d2] }
  | _ => none }
def destsFallsRow : OpenClaim := { program := "ytpjjcihhmhccfaa", sum := "f636b1b85b7a1cb7528ffbf5399580742bb33edaf47ffd97873df8dd889a9961", func := "sojourner/sojournerlaw21.DestsFalls", spec := "destsFalls", inPlace := ["slices.overlaps[*sojourner/dests.Entry]"], unfollowed := true, recurses := true, plainKeys := false, apart := false }
def DestsFallsSaid : Prop := destsFallsRow.holds Try.pinned (OpenSpec.ofChange destsFallsSpec)

/-- ITS FALSE NEIGHBOUR: 'it returns false'. Refute it at one input. -/
def destsFallsWrong : ChangeSpec := { name := "destsFalls", fn := fun _ => fun
  | [d1, d2] => { results := [.lit (.bool false)], args := [d1, d2] }
  | _ => none }
def DestsFallsWrongFalsely : Prop := destsFallsRow.holds Try.pinned (OpenSpec.ofChange destsFallsWrong)

/-- 'sojournerlaw21.DestsBound': WHATEVER THE INPUT: true; the input reads as it did. -/
def destsBoundSpec : ChangeSpec := { name := "destsBound", fn := fun _ => fun
  | [d] => { results := [.lit (.bool true)], args := [d] }
  | _ => none }
def destsBoundRow : OpenClaim := { program := "ytpjjcihhmhccfaa", sum := "f636b1b85b7a1cb7528ffbf5399580742bb33edaf47ffd97873df8dd889a9961", func := "sojourner/sojournerlaw21.DestsBound", spec := "destsBound", inPlace := ["slices.overlaps[*sojourner/dests.Entry]"], unfollowed := true, recurses := true, plainKeys := false, apart := false }
def DestsBoundSaid : Prop := destsBoundRow.holds Try.pinned (OpenSpec.ofChange destsBoundSpec)

/-- ITS FALSE NEIGHBOUR: 'it returns false'. Refute it at one input. -/
def destsBoundWrong : ChangeSpec := { name := "destsBound", fn := fun _ => fun
  | [d] => { results := [.lit (.bool false)], args := [d] }
  | _ => none }
def DestsBoundWrongFalsely : Prop := destsBoundRow.holds Try.pinned (OpenSpec.ofChange destsBoundWrong)

/-- 'sojournerlaw21.DestsOld': WHATEVER THE INPUT: true; the input reads as it did. -/
def destsOldSpec : ChangeSpec := { name := "destsOld", fn := fun _ => fun
  | [d1, d2] => { results := [.lit (.bool true)], args := [d1, d2] }
  | _ => none }
def destsOldRow : OpenClaim := { program := "ytpjjcihhmhccfaa", sum := "f636b1b85b7a1cb7528ffbf5399580742bb33edaf47ffd97873df8dd889a9961", func := "sojourner/sojournerlaw21.DestsOld", spec := "destsOld", inPlace := ["slices.overlaps[*sojourner/dests.Entry]"], unfollowed := true, recurses := true, plainKeys := false, apart := false }
def DestsOldSaid : Prop := destsOldRow.holds Try.pinned (OpenSpec.ofChange destsOldSpec)

/-- ITS FALSE NEIGHBOUR: 'it returns false'. Refute it at one input. -/
def destsOldWrong : ChangeSpec := { name := "destsOld", fn := fun _ => fun
  | [d1, d2] => { results := [.lit (.bool false)], args := [d1, d2] }
  | _ => none }
def DestsOldWrongFalsely : Prop := destsOldRow.holds Try.pinned (OpenSpec.ofChange destsOldWrong)

/-- 'sojournerlaw21.DestsPlay': WHATEVER THE INPUT: true; the input reads as it did. -/
def destsPlaySpec : ChangeSpec := { name := "destsPlay", fn := fun _ => fun
  | [d1, d2] => { results := [.lit (.bool true)], args := [d1, d2] }
  | _ => none }
def destsPlayRow : OpenClaim := { program := "ytpjjcihhmhccfaa", sum := "f636b1b85b7a1cb7528ffbf5399580742bb33edaf47ffd97873df8dd889a9961", func := "sojourner/sojournerlaw21.DestsPlay", spec := "destsPlay", inPlace := ["slices.overlaps[*sojourner/dests.Entry]"], unfollowed := true, recurses := true, plainKeys := false, apart := false }
def DestsPlaySaid : Prop := destsPlayRow.holds Try.pinned (OpenSpec.ofChange destsPlaySpec)

/-- ITS FALSE NEIGHBOUR: 'it returns false'. Refute it at one input. -/
def destsPlayWrong : ChangeSpec := { name := "destsPlay", fn := fun _ => fun
  | [d1, d2] => { results := [.lit (.bool false)], args := [d1, d2] }
  | _ => none }
def DestsPlayWrongFalsely : Prop := destsPlayRow.holds Try.pinned (OpenSpec.ofChange destsPlayWrong)

/-- 'sojournerlaw21.DestsNone': WHATEVER THE INPUT: true; the input reads as it did. -/
def destsNoneSpec : ChangeSpec := { name := "destsNone", fn := fun _ => fun
  | [d] => { results := [.lit (.bool true)], args := [d] }
  | _ => none }
def destsNoneRow : OpenClaim := { program := "ytpjjcihhmhccfaa", sum := "f636b1b85b7a1cb7528ffbf5399580742bb33edaf47ffd97873df8dd889a9961", func := "sojourner/sojournerlaw21.DestsNone", spec := "destsNone", inPlace := ["slices.overlaps[*sojourner/dests.Entry]"], unfollowed := true, recurses := true, plainKeys := false, apart := false }
def DestsNoneSaid : Prop := destsNoneRow.holds Try.pinned (OpenSpec.ofChange destsNoneSpec)

/-- ITS FALSE NEIGHBOUR: 'it returns false'. Refute it at one input. -/
def destsNoneWrong : ChangeSpec := { name := "destsNone", fn := fun _ => fun
  | [d] => { results := [.lit (.bool false)], args := [d] }
  | _ => none }
def DestsNoneWrongFalsely : Prop := destsNoneRow.holds Try.pinned (OpenSpec.ofChange destsNoneWrong)

/- THE SECOND FORM. 'bulk': how many values and letters a reading holds, each counted each time it is reached (what is shared counts as often as it is met; a slice's spare places count too). A statement '..UptoSaid' is the law's where the arguments, and the package variables that the reading takes, are together of bulk at most 1048576: NARROWER than '..Said'. Prove '..Said' where nothing that the law and all that it calls make is longer than what came in: it says more and counts as full. Else prove '..UptoSaid'. A law counts once. -/
mutual
def uptoBulk {H : Type} : DataW H → Nat
  | .lit (.string bytes) => bytes.length + 1
  | .lit _ => 1
  | .nil => 1
  | .ptr d => uptoBulk d + 1
  | .slice elems spare => uptoBulkAll elems + uptoBulkAll spare + 1
  | .agg parts => uptoBulkAll parts + 1
  | .iface _ d => uptoBulk d + 1
  | .map entries => uptoBulkEntries entries + 1
  | .held _ => 1
def uptoBulkAll {H : Type} : List (DataW H) → Nat
  | [] => 0
  | d :: r => uptoBulk d + uptoBulkAll r
def uptoBulkEntries {H : Type} : List (Lit × DataW H) → Nat
  | [] => 0
  | x :: r => uptoBulkEntry x + uptoBulkEntries r
def uptoBulkEntry {H : Type} : Lit × DataW H → Nat
  | (.string bytes, d) => bytes.length + uptoBulk d + 1
  | (_, d) => uptoBulk d + 1
 end
def uptoSmall : (H : Type) → List (DataW H) → Bool := fun _ ds => decide (uptoBulkAll ds ≤ 1048576)
def OpenSpec.upto (s : _root_.Go.ChangeSpec) : _root_.Go.OpenSpec := { _root_.Go.OpenSpec.ofChange s with cond := some uptoSmall }

/-- 'sojournerlaw21.DestsFalls', WHERE WHAT IT READS IS OF BULK AT MOST 1048576: true; the input reads as it did. -/
def destsFallsUptoRow : OpenClaim := { program := "ytpjjcihhmhccfaa", sum := "f636b1b85b7a1cb7528ffbf5399580742bb33edaf47ffd97873df8dd889a9961", func := "sojourner/sojournerlaw21.DestsFalls", spec := "destsFalls", inPlace := ["slices.overlaps[*sojourner/dests.Entry]"], unfollowed := true, recurses := true, plainKeys := false, apart := false, narrowed := true }
def DestsFallsUptoSaid : Prop := destsFallsUptoRow.holds Try.pinned (OpenSpec.upto destsFallsSpec)

/-- 'sojournerlaw21.DestsBound', WHERE WHAT IT READS IS OF BULK AT MOST 1048576: true; the input reads as it did. -/
def destsBoundUptoRow : OpenClaim := { program := "ytpjjcihhmhccfaa", sum := "f636b1b85b7a1cb7528ffbf5399580742bb33edaf47ffd97873df8dd889a9961", func := "sojourner/sojournerlaw21.DestsBound", spec := "destsBound", inPlace := ["slices.overlaps[*sojourner/dests.Entry]"], unfollowed := true, recurses := true, plainKeys := false, apart := false, narrowed := true }
def DestsBoundUptoSaid : Prop := destsBoundUptoRow.holds Try.pinned (OpenSpec.upto destsBoundSpec)

/-- 'sojournerlaw21.DestsOld', WHERE WHAT IT READS IS OF BULK AT MOST 1048576: true; the input reads as it did. -/
def destsOldUptoRow : OpenClaim := { program := "ytpjjcihhmhccfaa", sum := "f636b1b85b7a1cb7528ffbf5399580742bb33edaf47ffd97873df8dd889a9961", func := "sojourner/sojournerlaw21.DestsOld", spec := "destsOld", inPlace := ["slices.overlaps[*sojourner/dests.Entry]"], unfollowed := true, recurses := true, plainKeys := false, apart := false, narrowed := true }
def DestsOldUptoSaid : Prop := destsOldUptoRow.holds Try.pinned (OpenSpec.upto destsOldSpec)

/-- 'sojournerlaw21.DestsPlay', WHERE WHAT IT READS IS OF BULK AT MOST 1048576: true; the input reads as it did. -/
def destsPlayUptoRow : OpenClaim := { program := "ytpjjcihhmhccfaa", sum := "f636b1b85b7a1cb7528ffbf5399580742bb33edaf47ffd97873df8dd889a9961", func := "sojourner/sojournerlaw21.DestsPlay", spec := "destsPlay", inPlace := ["slices.overlaps[*sojourner/dests.Entry]"], unfollowed := true, recurses := true, plainKeys := false, apart := false, narrowed := true }
def DestsPlayUptoSaid : Prop := destsPlayUptoRow.holds Try.pinned (OpenSpec.upto destsPlaySpec)

/-- 'sojournerlaw21.DestsNone', WHERE WHAT IT READS IS OF BULK AT MOST 1048576: true; the input reads as it did. -/
def destsNoneUptoRow : OpenClaim := { program := "ytpjjcihhmhccfaa", sum := "f636b1b85b7a1cb7528ffbf5399580742bb33edaf47ffd97873df8dd889a9961", func := "sojourner/sojournerlaw21.DestsNone", spec := "destsNone", inPlace := ["slices.overlaps[*sojourner/dests.Entry]"], unfollowed := true, recurses := true, plainKeys := false, apart := false, narrowed := true }
def DestsNoneUptoSaid : Prop := destsNoneUptoRow.holds Try.pinned (OpenSpec.upto destsNoneSpec)

end Rows
end Go.Proofs.Ytpjjcihhmhccfaa
