/-
  No cell of these rows narrows 'for every input' (looked for: loops, veiled, ifaces, maps, wideKeys, modest, calm, conditions, laid).
  DERIVED. THE GIVEN ROWS OF THIS SEAT. 4 by the template 'for every input the law returns true; each argument reads behind the call as it read before'; 0 by the template 'total and deterministic' (their statements: YtepenfgoejhofaaTotals.lean).
  GIVEN WITH THE SEED: the statements are not yours to turn. If you find one false, say at which input.
  Laid BY PROGRAM, IN A SANDBOX (cutbox-rows.mjs): the forced cells as the released guide's own fill.sh prints them over the translation 5b1058287b5b0cb4… (all of the seat's roots in one cut). By AI agents, Wed Nov 11 2026. No macro, syntax, notation, axiom, sorry.
-/
import Derived.Test.YtepenfgoejhofaaChecked
import GoSem.Claim
import GoSem.ClaimJoined
import GoSem.ClaimMapViews
import Derived.JoinedTies
import Derived.KernelRfl
namespace Go.Proofs.Ytepenfgoejhofaa
/- THE CELL 'sum', in the pinned program and in every row, IS THE sha256 OF THE DUMP (.gsa) THAT YtepenfgoejhofaaProg.lean LOADS. Nothing in Lean hashes anything: it is a label: what it is worth is what the hold of that sum in a sandbox is worth. -/
noncomputable def Try.pinned : Pinned := { name := "ytepenfgoejhofaa", sum := "5b1058287b5b0cb46588af557ee736e3e411ed106cbeb20d0e04d89848dce1ee", checked := Try.checked }
namespace Rows
def none {H : Type} : Left H := { results := [], args := [] }

/-- 'sojournerlaw05.TimersOrder': WHATEVER THE INPUT: true; the input reads as it did. -/
def timersOrderSpec : ChangeSpec := { name := "timersOrder", fn := fun _ => fun
  | [d1, d2] => { results := [.lit (.bool true)], args := [d1, d2] }
  | _ => none }
def timersOrderRow : OpenClaim := { program := "ytepenfgoejhofaa", sum := "5b1058287b5b0cb46588af557ee736e3e411ed106cbeb20d0e04d89848dce1ee", func := "sojourner/sojournerlaw05.TimersOrder", spec := "timersOrder", unfollowed := true, recurses := true, plainKeys := false, apart := false }
def TimersOrderSaid : Prop := timersOrderRow.holds Try.pinned (OpenSpec.ofChange timersOrderSpec)

/-- ITS FALSE NEIGHBOUR: 'it returns false'. Refute it at one input. -/
def timersOrderWrong : ChangeSpec := { name := "timersOrder", fn := fun _ => fun
  | [d1, d2] => { results := [.lit (.bool false)], args := [d1, d2] }
  | _ => none }
def TimersOrderWrongFalsely : Prop := timersOrderRow.holds Try.pinned (OpenSpec.ofChange timersOrderWrong)

/-- 'sojournerlaw05.TimersPlay': WHATEVER THE INPUT: true; the input reads as it did. -/
def timersPlaySpec : ChangeSpec := { name := "timersPlay", fn := fun _ => fun
  | [d] => { results := [.lit (.bool true)], args := [d] }
  | _ => none }
def timersPlayRow : OpenClaim := { program := "ytepenfgoejhofaa", sum := "5b1058287b5b0cb46588af557ee736e3e411ed106cbeb20d0e04d89848dce1ee", func := "sojourner/sojournerlaw05.TimersPlay", spec := "timersPlay", unfollowed := true, recurses := true, plainKeys := false, apart := false }
def TimersPlaySaid : Prop := timersPlayRow.holds Try.pinned (OpenSpec.ofChange timersPlaySpec)

/-- ITS FALSE NEIGHBOUR: 'it returns false'. Refute it at one input. -/
def timersPlayWrong : ChangeSpec := { name := "timersPlay", fn := fun _ => fun
  | [d] => { results := [.lit (.bool false)], args := [d] }
  | _ => none }
def TimersPlayWrongFalsely : Prop := timersPlayRow.holds Try.pinned (OpenSpec.ofChange timersPlayWrong)

/-- 'sojournerlaw05.TimersVoid': WHATEVER THE INPUT: true; the input reads as it did. -/
def timersVoidSpec : ChangeSpec := { name := "timersVoid", fn := fun _ => fun
  | [d] => { results := [.lit (.bool true)], args := [d] }
  | _ => none }
def timersVoidRow : OpenClaim := { program := "ytepenfgoejhofaa", sum := "5b1058287b5b0cb46588af557ee736e3e411ed106cbeb20d0e04d89848dce1ee", func := "sojourner/sojournerlaw05.TimersVoid", spec := "timersVoid", unfollowed := true, recurses := true, plainKeys := false, apart := false }
def TimersVoidSaid : Prop := timersVoidRow.holds Try.pinned (OpenSpec.ofChange timersVoidSpec)

/-- ITS FALSE NEIGHBOUR: 'it returns false'. Refute it at one input. -/
def timersVoidWrong : ChangeSpec := { name := "timersVoid", fn := fun _ => fun
  | [d] => { results := [.lit (.bool false)], args := [d] }
  | _ => none }
def TimersVoidWrongFalsely : Prop := timersVoidRow.holds Try.pinned (OpenSpec.ofChange timersVoidWrong)

/-- 'sojournerlaw05.TimersFull': WHATEVER THE INPUT: true; the input reads as it did. -/
def timersFullSpec : ChangeSpec := { name := "timersFull", fn := fun _ => fun
  | [d1, d2, d3] => { results := [.lit (.bool true)], args := [d1, d2, d3] }
  | _ => none }
def timersFullRow : OpenClaim := { program := "ytepenfgoejhofaa", sum := "5b1058287b5b0cb46588af557ee736e3e411ed106cbeb20d0e04d89848dce1ee", func := "sojourner/sojournerlaw05.TimersFull", spec := "timersFull", unfollowed := true, recurses := true, plainKeys := false, apart := false }
def TimersFullSaid : Prop := timersFullRow.holds Try.pinned (OpenSpec.ofChange timersFullSpec)

/-- ITS FALSE NEIGHBOUR: 'it returns false'. Refute it at one input. -/
def timersFullWrong : ChangeSpec := { name := "timersFull", fn := fun _ => fun
  | [d1, d2, d3] => { results := [.lit (.bool false)], args := [d1, d2, d3] }
  | _ => none }
def TimersFullWrongFalsely : Prop := timersFullRow.holds Try.pinned (OpenSpec.ofChange timersFullWrong)

/- THE SECOND FORM. 'bulk': how many values and letters a reading holds, each counted each time it is reached (what is shared counts as often as it is met; a slice's spare places count too). A statement '..UptoSaid' is the law's where the arguments, and the package variables that the reading takes, are together of bulk at most 1048576: NARROWER than '..Said'. Prove '..Said' where nothing that the law and all that it calls make is longer than what came in: it says more and counts as full. Else prove '..UptoSaid'. A law counts once. -/
mutual
def uptoBulk {H : Type} : DataW H → Nat
  | .lit (.string bytes) => bytes.length + 1
  | .lit _ => 1
  | .nil => 1
  | .ptr d => uptoBulk d + 1
  | .slice elems spare => uptoBulkAll elems + uptoBulkAll spare + 1
  | .agg parts => uptoBulkAll parts + 1
  | .iface _ d => uptoBulk d + 1
  | .map entries => uptoBulkEntries entries + 1
  | .held _ => 1
def uptoBulkAll {H : Type} : List (DataW H) → Nat
  | [] => 0
  | d :: r => uptoBulk d + uptoBulkAll r
def uptoBulkEntries {H : Type} : List (Lit × DataW H) → Nat
  | [] => 0
  | x :: r => uptoBulkEntry x + uptoBulkEntries r
def uptoBulkEntry {H : Type} : Lit × DataW H → Nat
  | (.string bytes, d) => bytes.length + uptoBulk d + 1
  | (_, d) => uptoBulk d + 1
 end
def uptoSmall : (H : Type) → List (DataW H) → Bool := fun _ ds => decide (uptoBulkAll ds ≤ 1048576)
def OpenSpec.upto (s : _root_.Go.ChangeSpec) : _root_.Go.OpenSpec := { _root_.Go.OpenSpec.ofChange s with cond := some uptoSmall }

/-- 'sojournerlaw05.TimersOrder', WHERE WHAT IT READS IS OF BULK AT MOST 1048576: true; the input reads as it did. -/
def timersOrderUptoRow : OpenClaim := { program := "ytepenfgoejhofaa", sum := "5b1058287b5b0cb46588af557ee736e3e411ed106cbeb20d0e04d89848dce1ee", func := "sojourner/sojournerlaw05.TimersOrder", spec := "timersOrder", unfollowed := true, recurses := true, plainKeys := false, apart := false, narrowed := true }
def TimersOrderUptoSaid : Prop := timersOrderUptoRow.holds Try.pinned (OpenSpec.upto timersOrderSpec)

/-- 'sojournerlaw05.TimersPlay', WHERE WHAT IT READS IS OF BULK AT MOST 1048576: true; the input reads as it did. -/
def timersPlayUptoRow : OpenClaim := { program := "ytepenfgoejhofaa", sum := "5b1058287b5b0cb46588af557ee736e3e411ed106cbeb20d0e04d89848dce1ee", func := "sojourner/sojournerlaw05.TimersPlay", spec := "timersPlay", unfollowed := true, recurses := true, plainKeys := false, apart := false, narrowed := true }
def TimersPlayUptoSaid : Prop := timersPlayUptoRow.holds Try.pinned (OpenSpec.upto timersPlaySpec)

/-- 'sojournerlaw05.TimersVoid', WHERE WHAT IT READS IS OF BULK AT MOST 1048576: true; the input reads as it did. -/
def timersVoidUptoRow : OpenClaim := { program := "ytepenfgoejhofaa", sum := "5b1058287b5b0cb46588af557ee736e3e411ed106cbeb20d0e04d89848dce1ee", func := "sojourner/sojournerlaw05.TimersVoid", spec := "timersVoid", unfollowed := true, recurses := true, plainKeys := false, apart := false, narrowed := true }
def TimersVoidUptoSaid : Prop := timersVoidUptoRow.holds Try.pinned (OpenSpec.upto timersVoidSpec)

/-- 'sojournerlaw05.TimersFull', WHERE WHAT IT READS IS OF BULK AT MOST 1048576: true; the input reads as it did. -/
def timersFullUptoRow : OpenClaim := { program := "ytepenfgoejhofaa", sum := "5b1058287b5b0cb46588af557ee736e3e411ed106cbeb20d0e04d89848dce1ee", func := "sojourner/sojournerlaw05.TimersFull", spec := "timersFull", unfollowed := true, recurses := true, plainKeys := false, apart := false, narrowed := true }
def TimersFullUptoSaid : Prop := timersFullUptoRow.holds Try.pinned (OpenSpec.upto timersFullSpec)

end Rows
end Go.Proofs.Ytepenfgoejhofaa
