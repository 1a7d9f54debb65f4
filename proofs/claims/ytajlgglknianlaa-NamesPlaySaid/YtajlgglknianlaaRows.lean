/-
  No cell of these rows narrows 'for every input' (looked for: loops, veiled, ifaces, maps, wideKeys, modest, calm, conditions, laid).
  DERIVED. THE GIVEN ROWS OF THIS SEAT. 4 by the template 'for every input the law returns true; each argument reads behind the call as it read before'; 0 by the template 'total and deterministic' (their statements: YtajlgglknianlaaTotals.lean).
  GIVEN WITH THE SEED: the statements are not yours to turn. If you find one false, say at which input.
  Laid BY PROGRAM, IN A SANDBOX (cutbox-rows.mjs): the forced cells as the released guide's own fill.sh prints them over the translation 116ce7d23ad27a24… (all of the seat's roots in one cut). By AI agents, Wed Nov 11 2026. No macro, syntax, notation, axiom, sorry.
-/
import Derived.Test.YtajlgglknianlaaChecked
import GoSem.Claim
import GoSem.ClaimJoined
import GoSem.ClaimMapViews
import Derived.JoinedTies
import Derived.KernelRfl
namespace Go.Proofs.Ytajlgglknianlaa
/- THE CELL 'sum', in the pinned program and in every row, IS THE sha256 OF THE DUMP (.gsa) THAT YtajlgglknianlaaProg.lean LOADS. Nothing in Lean hashes anything: it is a label: what it is worth is what the hold of that sum in a sandbox is worth. -/
noncomputable def Try.pinned : Pinned := { name := "ytajlgglknianlaa", sum := "116ce7d23ad27a244dea1f00a17643b3e6025359916b4d815bb8072c2a690c71", checked := Try.checked }
namespace Rows
def none {H : Type} : Left H := { results := [], args := [] }

/-- 'sojournerlaw25.NamesTime': WHATEVER THE INPUT: true; the input reads as it did. -/
def namesTimeSpec : ChangeSpec := { name := "namesTime", fn := fun _ => fun
  | [d1, d2] => { results := [.lit (.bool true)], args := [d1, d2] }
  | _ => none }
def namesTimeRow : OpenClaim := { program := "ytajlgglknianlaa", sum := "116ce7d23ad27a244dea1f00a17643b3e6025359916b4d815bb8072c2a690c71", func := "sojourner/sojournerlaw25.NamesTime", spec := "namesTime", unfollowed := true, recurses := true, apart := false }
def NamesTimeSaid : Prop := namesTimeRow.holds Try.pinned (OpenSpec.ofChange namesTimeSpec)

/-- ITS FALSE NEIGHBOUR: 'it returns false'. Refute it at one input. -/
def namesTimeWrong : ChangeSpec := { name := "namesTime", fn := fun _ => fun
  | [d1, d2] => { results := [.lit (.bool false)], args := [d1, d2] }
  | _ => none }
def NamesTimeWrongFalsely : Prop := namesTimeRow.holds Try.pinned (OpenSpec.ofChange namesTimeWrong)

/-- 'sojournerlaw25.NamesBound': WHATEVER THE INPUT: true; the input reads as it did. -/
def namesBoundSpec : ChangeSpec := { name := "namesBound", fn := fun _ => fun
  | [d] => { results := [.lit (.bool true)], args := [d] }
  | _ => none }
def namesBoundRow : OpenClaim := { program := "ytajlgglknianlaa", sum := "116ce7d23ad27a244dea1f00a17643b3e6025359916b4d815bb8072c2a690c71", func := "sojourner/sojournerlaw25.NamesBound", spec := "namesBound", unfollowed := true, recurses := true, apart := false }
def NamesBoundSaid : Prop := namesBoundRow.holds Try.pinned (OpenSpec.ofChange namesBoundSpec)

/-- ITS FALSE NEIGHBOUR: 'it returns false'. Refute it at one input. -/
def namesBoundWrong : ChangeSpec := { name := "namesBound", fn := fun _ => fun
  | [d] => { results := [.lit (.bool false)], args := [d] }
  | _ => none }
def NamesBoundWrongFalsely : Prop := namesBoundRow.holds Try.pinned (OpenSpec.ofChange namesBoundWrong)

/-- 'sojournerlaw25.NamesPlay': WHATEVER THE INPUT: true; the input reads as it did. -/
def namesPlaySpec : ChangeSpec := { name := "namesPlay", fn := fun _ => fun
  | [d1, d2] => { results := [.lit (.bool true)], args := [d1, d2] }
  | _ => none }
def namesPlayRow : OpenClaim := { program := "ytajlgglknianlaa", sum := "116ce7d23ad27a244dea1f00a17643b3e6025359916b4d815bb8072c2a690c71", func := "sojourner/sojournerlaw25.NamesPlay", spec := "namesPlay", unfollowed := true, recurses := true, apart := false }
def NamesPlaySaid : Prop := namesPlayRow.holds Try.pinned (OpenSpec.ofChange namesPlaySpec)

/-- ITS FALSE NEIGHBOUR: 'it returns false'. Refute it at one input. -/
def namesPlayWrong : ChangeSpec := { name := "namesPlay", fn := fun _ => fun
  | [d1, d2] => { results := [.lit (.bool false)], args := [d1, d2] }
  | _ => none }
def NamesPlayWrongFalsely : Prop := namesPlayRow.holds Try.pinned (OpenSpec.ofChange namesPlayWrong)

/-- 'sojournerlaw25.NamesNone': WHATEVER THE INPUT: true; the input reads as it did. -/
def namesNoneSpec : ChangeSpec := { name := "namesNone", fn := fun _ => fun
  | [d] => { results := [.lit (.bool true)], args := [d] }
  | _ => none }
def namesNoneRow : OpenClaim := { program := "ytajlgglknianlaa", sum := "116ce7d23ad27a244dea1f00a17643b3e6025359916b4d815bb8072c2a690c71", func := "sojourner/sojournerlaw25.NamesNone", spec := "namesNone", unfollowed := true, recurses := true, apart := false }
def NamesNoneSaid : Prop := namesNoneRow.holds Try.pinned (OpenSpec.ofChange namesNoneSpec)

/-- ITS FALSE NEIGHBOUR: 'it returns false'. Refute it at one input. -/
def namesNoneWrong : ChangeSpec := { name := "namesNone", fn := fun _ => fun
  | [d] => { results := [.lit (.bool false)], args := [d] }
  | _ => none }
def NamesNoneWrongFalsely : Prop := namesNoneRow.holds Try.pinned (OpenSpec.ofChange namesNoneWrong)

/- THE SECOND FORM. 'bulk': how many values and letters a reading holds, each counted each time it is reached (what is shared counts as often as it is met; a slice's spare places count too). A statement '..UptoSaid' is the law's where the arguments, and the package variables that the reading takes, are together of bulk at most 1048576: NARROWER than '..Said'. Prove '..Said' where nothing that the law and all that it calls make is longer than what came in: it says more and counts as full. Else prove '..UptoSaid'. A law counts once. -/
mutual
def uptoBulk {H : Type} : DataW H → Nat
  | .lit (.string bytes) => bytes.length + 1
  | .lit _ => 1
  | .nil => 1
  | .ptr d => uptoBulk d + 1
  | .slice elems spare => uptoBulkAll elems + uptoBulkAll spare + 1
  | .agg parts => uptoBulkAll parts + 1
  | .iface _ d => uptoBulk d + 1
  | .map entries => uptoBulkEntries entries + 1
  | .held _ => 1
def uptoBulkAll {H : Type} : List (DataW H) → Nat
  | [] => 0
  | d :: r => uptoBulk d + uptoBulkAll r
def uptoBulkEntries {H : Type} : List (Lit × DataW H) → Nat
  | [] => 0
  | x :: r => uptoBulkEntry x + uptoBulkEntries r
def uptoBulkEntry {H : Type} : Lit × DataW H → Nat
  | (.string bytes, d) => bytes.length + uptoBulk d + 1
  | (_, d) => uptoBulk d + 1
 end
def uptoSmall : (H : Type) → List (DataW H) → Bool := fun _ ds => decide (uptoBulkAll ds ≤ 1048576)
def OpenSpec.upto (s : _root_.Go.ChangeSpec) : _root_.Go.OpenSpec := { _root_.Go.OpenSpec.ofChange s with cond := some uptoSmall }

/-- 'sojournerlaw25.NamesTime', WHERE WHAT IT READS IS OF BULK AT MOST 1048576: true; the input reads as it did. -/
def namesTimeUptoRow : OpenClaim := { program := "ytajlgglknianlaa", sum := "116ce7d23ad27a244dea1f00a17643b3e6025359916b4d815bb8072c2a690c71", func := "sojourner/sojournerlaw25.NamesTime", spec := "namesTime", unfollowed := true, recurses := true, apart := false, narrowed := true }
def NamesTimeUptoSaid : Prop := namesTimeUptoRow.holds Try.pinned (OpenSpec.upto namesTimeSpec)

/-- 'sojournerlaw25.NamesBound', WHERE WHAT IT READS IS OF BULK AT MOST 1048576: true; the input reads as it did. -/
def namesBoundUptoRow : OpenClaim := { program := "ytajlgglknianlaa", sum := "116ce7d23ad27a244dea1f00a17643b3e6025359916b4d815bb8072c2a690c71", func := "sojourner/sojournerlaw25.NamesBound", spec := "namesBound", unfollowed := true, recurses := true, apart := false, narrowed := true }
def NamesBoundUptoSaid : Prop := namesBoundUptoRow.holds Try.pinned (OpenSpec.upto namesBoundSpec)

/-- 'sojournerlaw25.NamesPlay', WHERE WHAT IT READS IS OF BULK AT MOST 1048576: true; the input reads as it did. -/
def namesPlayUptoRow : OpenClaim := { program := "ytajlgglknianlaa", sum := "116ce7d23ad27a244dea1f00a17643b3e6025359916b4d815bb8072c2a690c71", func := "sojourner/sojournerlaw25.NamesPlay", spec := "namesPlay", unfollowed := true, recurses := true, apart := false, narrowed := true }
def NamesPlayUptoSaid : Prop := namesPlayUptoRow.holds Try.pinned (OpenSpec.upto namesPlaySpec)

/-- 'sojournerlaw25.NamesNone', WHERE WHAT IT READS IS OF BULK AT MOST 1048576: true; the input reads as it did. -/
def namesNoneUptoRow : OpenClaim := { program := "ytajlgglknianlaa", sum := "116ce7d23ad27a244dea1f00a17643b3e6025359916b4d815bb8072c2a690c71", func := "sojourner/sojournerlaw25.NamesNone", spec := "namesNone", unfollowed := true, recurses := true, apart := false, narrowed := true }
def NamesNoneUptoSaid : Prop := namesNoneUptoRow.holds Try.pinned (OpenSpec.upto namesNoneSpec)

end Rows
end Go.Proofs.Ytajlgglknianlaa
