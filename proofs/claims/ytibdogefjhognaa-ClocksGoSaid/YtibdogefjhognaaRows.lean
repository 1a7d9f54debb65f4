/-
  No cell of these rows narrows 'for every input' (looked for: loops, veiled, ifaces, maps, wideKeys, modest, calm, conditions, laid).
  DERIVED. THE GIVEN ROWS OF THIS SEAT. 6 by the template 'for every input the law returns true; each argument reads behind the call as it read before'; 0 by the template 'total and deterministic' (their statements: YtibdogefjhognaaTotals.lean).
  GIVEN WITH THE SEED: the statements are not yours to turn. If you find one false, say at which input.
  Laid BY PROGRAM, IN A SANDBOX (cutbox-rows.mjs): the forced cells as the released guide's own fill.sh prints them over the translation c47075e084d50ad4… (all of the seat's roots in one cut). By AI agents, Wed Nov 11 2026. No macro, syntax, notation, axiom, sorry.
-/
import Derived.Test.YtibdogefjhognaaChecked
import GoSem.Claim
import GoSem.ClaimJoined
import GoSem.ClaimMapViews
import Derived.JoinedTies
import Derived.KernelRfl
namespace Go.Proofs.Ytibdogefjhognaa
/- THE CELL 'sum', in the pinned program and in every row, IS THE sha256 OF THE DUMP (.gsa) THAT YtibdogefjhognaaProg.lean LOADS. Nothing in Lean hashes anything: it is a label: what it is worth is what the hold of that sum in a sandbox is worth. -/
noncomputable def Try.pinned : Pinned := { name := "ytibdogefjhognaa", sum := "c47075e084d50ad4c987d57d261b8d79f7826190d1d640a0686f12ab0a0459d6", checked := Try.checked }
namespace Rows
def none {H : Type} : Left H := { results := [], args := [] }

/-- 'sojournerlaw03.ClocksAdd': WHATEVER THE INPUT: true; the input reads as it did. -/
def clocksAddSpec : ChangeSpec := { name := "clocksAdd", fn := fun _ => fun
  | [d1, d2, d3] => { results := [.lit (.bool true)], args := [d1, d2, d3] }
  | _ => none }
def clocksAddRow : OpenClaim := { program := "ytibdogefjhognaa", sum := "c47075e084d50ad4c987d57d261b8d79f7826190d1d640a0686f12ab0a0459d6", func := "sojourner/sojournerlaw03.ClocksAdd", spec := "clocksAdd", apart := false }
def ClocksAddSaid : Prop := clocksAddRow.holds Try.pinned (OpenSpec.ofChange clocksAddSpec)

/-- ITS FALSE NEIGHBOUR: 'it returns false'. Refute it at one input. -/
def clocksAddWrong : ChangeSpec := { name := "clocksAdd", fn := fun _ => fun
  | [d1, d2, d3] => { results := [.lit (.bool false)], args := [d1, d2, d3] }
  | _ => none }
def ClocksAddWrongFalsely : Prop := clocksAddRow.holds Try.pinned (OpenSpec.ofChange clocksAddWrong)

/-- 'sojournerlaw03.ClocksGo': WHATEVER THE INPUT: true; the input reads as it did. -/
def clocksGoSpec : ChangeSpec := { name := "clocksGo", fn := fun _ => fun
  | [d] => { results := [.lit (.bool true)], args := [d] }
  | _ => none }
def clocksGoRow : OpenClaim := { program := "ytibdogefjhognaa", sum := "c47075e084d50ad4c987d57d261b8d79f7826190d1d640a0686f12ab0a0459d6", func := "sojourner/sojournerlaw03.ClocksGo", spec := "clocksGo", apart := false }
def ClocksGoSaid : Prop := clocksGoRow.holds Try.pinned (OpenSpec.ofChange clocksGoSpec)

/-- ITS FALSE NEIGHBOUR: 'it returns false'. Refute it at one input. -/
def clocksGoWrong : ChangeSpec := { name := "clocksGo", fn := fun _ => fun
  | [d] => { results := [.lit (.bool false)], args := [d] }
  | _ => none }
def ClocksGoWrongFalsely : Prop := clocksGoRow.holds Try.pinned (OpenSpec.ofChange clocksGoWrong)

/-- 'sojournerlaw03.ClocksVoid': WHATEVER THE INPUT: true; the input reads as it did. -/
def clocksVoidSpec : ChangeSpec := { name := "clocksVoid", fn := fun _ => fun
  | [d] => { results := [.lit (.bool true)], args := [d] }
  | _ => none }
def clocksVoidRow : OpenClaim := { program := "ytibdogefjhognaa", sum := "c47075e084d50ad4c987d57d261b8d79f7826190d1d640a0686f12ab0a0459d6", func := "sojourner/sojournerlaw03.ClocksVoid", spec := "clocksVoid", apart := false }
def ClocksVoidSaid : Prop := clocksVoidRow.holds Try.pinned (OpenSpec.ofChange clocksVoidSpec)

/-- ITS FALSE NEIGHBOUR: 'it returns false'. Refute it at one input. -/
def clocksVoidWrong : ChangeSpec := { name := "clocksVoid", fn := fun _ => fun
  | [d] => { results := [.lit (.bool false)], args := [d] }
  | _ => none }
def ClocksVoidWrongFalsely : Prop := clocksVoidRow.holds Try.pinned (OpenSpec.ofChange clocksVoidWrong)

/-- 'sojournerlaw03.ClocksHeld': WHATEVER THE INPUT: true; the input reads as it did. -/
def clocksHeldSpec : ChangeSpec := { name := "clocksHeld", fn := fun _ => fun
  | [d1, d2, d3] => { results := [.lit (.bool true)], args := [d1, d2, d3] }
  | _ => none }
def clocksHeldRow : OpenClaim := { program := "ytibdogefjhognaa", sum := "c47075e084d50ad4c987d57d261b8d79f7826190d1d640a0686f12ab0a0459d6", func := "sojourner/sojournerlaw03.ClocksHeld", spec := "clocksHeld", apart := false }
def ClocksHeldSaid : Prop := clocksHeldRow.holds Try.pinned (OpenSpec.ofChange clocksHeldSpec)

/-- ITS FALSE NEIGHBOUR: 'it returns false'. Refute it at one input. -/
def clocksHeldWrong : ChangeSpec := { name := "clocksHeld", fn := fun _ => fun
  | [d1, d2, d3] => { results := [.lit (.bool false)], args := [d1, d2, d3] }
  | _ => none }
def ClocksHeldWrongFalsely : Prop := clocksHeldRow.holds Try.pinned (OpenSpec.ofChange clocksHeldWrong)

/-- 'sojournerlaw03.ClocksLater': WHATEVER THE INPUT: true; the input reads as it did. -/
def clocksLaterSpec : ChangeSpec := { name := "clocksLater", fn := fun _ => fun
  | [d1, d2] => { results := [.lit (.bool true)], args := [d1, d2] }
  | _ => none }
def clocksLaterRow : OpenClaim := { program := "ytibdogefjhognaa", sum := "c47075e084d50ad4c987d57d261b8d79f7826190d1d640a0686f12ab0a0459d6", func := "sojourner/sojournerlaw03.ClocksLater", spec := "clocksLater", apart := false }
def ClocksLaterSaid : Prop := clocksLaterRow.holds Try.pinned (OpenSpec.ofChange clocksLaterSpec)

/-- ITS FALSE NEIGHBOUR: 'it returns false'. Refute it at one input. -/
def clocksLaterWrong : ChangeSpec := { name := "clocksLater", fn := fun _ => fun
  | [d1, d2] => { results := [.lit (.bool false)], args := [d1, d2] }
  | _ => none }
def ClocksLaterWrongFalsely : Prop := clocksLaterRow.holds Try.pinned (OpenSpec.ofChange clocksLaterWrong)

/-- 'sojournerlaw03.ClocksSecs': WHATEVER THE INPUT: true; the input reads as it did. -/
def clocksSecsSpec : ChangeSpec := { name := "clocksSecs", fn := fun _ => fun
  | [d] => { results := [.lit (.bool true)], args := [d] }
  | _ => none }
def clocksSecsRow : OpenClaim := { program := "ytibdogefjhognaa", sum := "c47075e084d50ad4c987d57d261b8d79f7826190d1d640a0686f12ab0a0459d6", func := "sojourner/sojournerlaw03.ClocksSecs", spec := "clocksSecs", apart := false }
def ClocksSecsSaid : Prop := clocksSecsRow.holds Try.pinned (OpenSpec.ofChange clocksSecsSpec)

/-- ITS FALSE NEIGHBOUR: 'it returns false'. Refute it at one input. -/
def clocksSecsWrong : ChangeSpec := { name := "clocksSecs", fn := fun _ => fun
  | [d] => { results := [.lit (.bool false)], args := [d] }
  | _ => none }
def ClocksSecsWrongFalsely : Prop := clocksSecsRow.holds Try.pinned (OpenSpec.ofChange clocksSecsWrong)

/- THE SECOND FORM. 'bulk': how many values and letters a reading holds, each counted each time it is reached (what is shared counts as often as it is met; a slice's spare places count too). A statement '..UptoSaid' is the law's where the arguments, and the package variables that the reading takes, are together of bulk at most 1048576: NARROWER than '..Said'. Prove '..Said' where nothing that the law and all that it calls make is longer than what came in: it says more and counts as full. Else prove '..UptoSaid'. A law counts once. -/
mutual
def uptoBulk {H : Type} : DataW H → Nat
  | .lit (.string bytes) => bytes.length + 1
  | .lit _ => 1
  | .nil => 1
  | .ptr d => uptoBulk d + 1
  | .slice elems spare => uptoBulkAll elems + uptoBulkAll spare + 1
  | .agg parts => uptoBulkAll parts + 1
  | .iface _ d => uptoBulk d + 1
  | .map entries => uptoBulkEntries entries + 1
  | .held _ => 1
def uptoBulkAll {H : Type} : List (DataW H) → Nat
  | [] => 0
  | d :: r => uptoBulk d + uptoBulkAll r
def uptoBulkEntries {H : Type} : List (Lit × DataW H) → Nat
  | [] => 0
  | x :: r => uptoBulkEntry x + uptoBulkEntries r
def uptoBulkEntry {H : Type} : Lit × DataW H → Nat
  | (.string bytes, d) => bytes.length + uptoBulk d + 1
  | (_, d) => uptoBulk d + 1
 end
def uptoSmall : (H : Type) → List (DataW H) → Bool := fun _ ds => decide (uptoBulkAll ds ≤ 1048576)
def OpenSpec.upto (s : _root_.Go.ChangeSpec) : _root_.Go.OpenSpec := { _root_.Go.OpenSpec.ofChange s with cond := some uptoSmall }

/-- 'sojournerlaw03.ClocksAdd', WHERE WHAT IT READS IS OF BULK AT MOST 1048576: true; the input reads as it did. -/
def clocksAddUptoRow : OpenClaim := { program := "ytibdogefjhognaa", sum := "c47075e084d50ad4c987d57d261b8d79f7826190d1d640a0686f12ab0a0459d6", func := "sojourner/sojournerlaw03.ClocksAdd", spec := "clocksAdd", apart := false, narrowed := true }
def ClocksAddUptoSaid : Prop := clocksAddUptoRow.holds Try.pinned (OpenSpec.upto clocksAddSpec)

/-- 'sojournerlaw03.ClocksGo', WHERE WHAT IT READS IS OF BULK AT MOST 1048576: true; the input reads as it did. -/
def clocksGoUptoRow : OpenClaim := { program := "ytibdogefjhognaa", sum := "c47075e084d50ad4c987d57d261b8d79f7826190d1d640a0686f12ab0a0459d6", func := "sojourner/sojournerlaw03.ClocksGo", spec := "clocksGo", apart := false, narrowed := true }
def ClocksGoUptoSaid : Prop := clocksGoUptoRow.holds Try.pinned (OpenSpec.upto clocksGoSpec)

/-- 'sojournerlaw03.ClocksVoid', WHERE WHAT IT READS IS OF BULK AT MOST 1048576: true; the input reads as it did. -/
def clocksVoidUptoRow : OpenClaim := { program := "ytibdogefjhognaa", sum := "c47075e084d50ad4c987d57d261b8d79f7826190d1d640a0686f12ab0a0459d6", func := "sojourner/sojournerlaw03.ClocksVoid", spec := "clocksVoid", apart := false, narrowed := true }
def ClocksVoidUptoSaid : Prop := clocksVoidUptoRow.holds Try.pinned (OpenSpec.upto clocksVoidSpec)

/-- 'sojournerlaw03.ClocksHeld', WHERE WHAT IT READS IS OF BULK AT MOST 1048576: true; the input reads as it did. -/
def clocksHeldUptoRow : OpenClaim := { program := "ytibdogefjhognaa", sum := "c47075e084d50ad4c987d57d261b8d79f7826190d1d640a0686f12ab0a0459d6", func := "sojourner/sojournerlaw03.ClocksHeld", spec := "clocksHeld", apart := false, narrowed := true }
def ClocksHeldUptoSaid : Prop := clocksHeldUptoRow.holds Try.pinned (OpenSpec.upto clocksHeldSpec)

/-- 'sojournerlaw03.ClocksLater', WHERE WHAT IT READS IS OF BULK AT MOST 1048576: true; the input reads as it did. -/
def clocksLaterUptoRow : OpenClaim := { program := "ytibdogefjhognaa", sum := "c47075e084d50ad4c987d57d261b8d79f7826190d1d640a0686f12ab0a0459d6", func := "sojourner/sojournerlaw03.ClocksLater", spec := "clocksLater", apart := false, narrowed := true }
def ClocksLaterUptoSaid : Prop := clocksLaterUptoRow.holds Try.pinned (OpenSpec.upto clocksLaterSpec)

/-- 'sojournerlaw03.ClocksSecs', WHERE WHAT IT READS IS OF BULK AT MOST 1048576: true; the input reads as it did. -/
def clocksSecsUptoRow : OpenClaim := { program := "ytibdogefjhognaa", sum := "c47075e084d50ad4c987d57d261b8d79f7826190d1d640a0686f12ab0a0459d6", func := "sojourner/sojournerlaw03.ClocksSecs", spec := "clocksSecs", apart := false, narrowed := true }
def ClocksSecsUptoSaid : Prop := clocksSecsUptoRow.holds Try.pinned (OpenSpec.upto clocksSecsSpec)

end Rows
end Go.Proofs.Ytibdogefjhognaa
