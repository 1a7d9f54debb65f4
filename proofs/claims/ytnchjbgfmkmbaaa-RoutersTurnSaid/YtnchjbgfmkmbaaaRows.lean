/-
  No cell of these rows narrows 'for every input' (looked for: loops, veiled, ifaces, maps, wideKeys, modest, calm, conditions, laid).
  DERIVED. THE GIVEN ROWS OF THIS SEAT. 4 by the template 'for every input the law returns true; each argument reads behind the call as it read before'; 0 by the template 'total and deterministic' (their statements: YtnchjbgfmkmbaaaTotals.lean).
  GIVEN WITH THE SEED: the statements are not yours to turn. If you find one false, say at which input.
  Laid BY PROGRAM, IN A SANDBOX (cutbox-rows.mjs): the forced cells as the released guide's own fill.sh prints them over the translation 4950ec7651234671… (all of the seat's roots in one cut). By AI agents, Wed Nov 11 2026. No macro, syntax, notation, axiom, sorry.
-/
import Derived.Test.YtnchjbgfmkmbaaaChecked
import GoSem.Claim
import GoSem.ClaimJoined
import GoSem.ClaimMapViews
import Derived.JoinedTies
import Derived.KernelRfl
namespace Go.Proofs.Ytnchjbgfmkmbaaa
/- THE CELL 'sum', in the pinned program and in every row, IS THE sha256 OF THE DUMP (.gsa) THAT YtnchjbgfmkmbaaaProg.lean LOADS. Nothing in Lean hashes anything: it is a label: what it is worth is what the hold of that sum in a sandbox is worth. -/
noncomputable def Try.pinned : Pinned := { name := "ytnchjbgfmkmbaaa", sum := "4950ec76512346719d2258270a00547249931f7154e01ed5cd5e1af4adb37f8f", checked := Try.checked }
namespace Rows
def none {H : Type} : Left H := { results := [], args := [] }

/-- 'sojournerlaw19.RoutersNone': WHATEVER THE INPUT: true; the input reads as it did. -/
def routersNoneSpec : ChangeSpec := { name := "routersNone", fn := fun _ => fun
  | [d] => { results := [.lit (.bool true)], args := [d] }
  | _ => none }
def routersNoneRow : OpenClaim := { program := "ytnchjbgfmkmbaaa", sum := "4950ec76512346719d2258270a00547249931f7154e01ed5cd5e1af4adb37f8f", func := "sojourner/sojournerlaw19.RoutersNone", spec := "routersNone", unfollowed := true, recurses := true, apart := false }
def RoutersNoneSaid : Prop := routersNoneRow.holds Try.pinned (OpenSpec.ofChange routersNoneSpec)

/-- ITS FALSE NEIGHBOUR: 'it returns false'. Refute it at one input. -/
def routersNoneWrong : ChangeSpec := { name := "routersNone", fn := fun _ => fun
  | [d] => { results := [.lit (.bool false)], args := [d] }
  | _ => none }
def RoutersNoneWrongFalsely : Prop := routersNoneRow.holds Try.pinned (OpenSpec.ofChange routersNoneWrong)

/-- 'sojournerlaw19.RoutersTime': WHATEVER THE INPUT: true; the input reads as it did. -/
def routersTimeSpec : ChangeSpec := { name := "routersTime", fn := fun _ => fun
  | [d1, d2] => { results := [.lit (.bool true)], args := [d1, d2] }
  | _ => none }
def routersTimeRow : OpenClaim := { program := "ytnchjbgfmkmbaaa", sum := "4950ec76512346719d2258270a00547249931f7154e01ed5cd5e1af4adb37f8f", func := "sojourner/sojournerlaw19.RoutersTime", spec := "routersTime", unfollowed := true, recurses := true, apart := false }
def RoutersTimeSaid : Prop := routersTimeRow.holds Try.pinned (OpenSpec.ofChange routersTimeSpec)

/-- ITS FALSE NEIGHBOUR: 'it returns false'. Refute it at one input. -/
def routersTimeWrong : ChangeSpec := { name := "routersTime", fn := fun _ => fun
  | [d1, d2] => { results := [.lit (.bool false)], args := [d1, d2] }
  | _ => none }
def RoutersTimeWrongFalsely : Prop := routersTimeRow.holds Try.pinned (OpenSpec.ofChange routersTimeWrong)

/-- 'sojournerlaw19.RoutersBound': WHATEVER THE INPUT: true; the input reads as it did. -/
def routersBoundSpec : ChangeSpec := { name := "routersBound", fn := fun _ => fun
  | [d] => { results := [.lit (.bool true)], args := [d] }
  | _ => none }
def routersBoundRow : OpenClaim := { program := "ytnchjbgfmkmbaaa", sum := "4950ec76512346719d2258270a00547249931f7154e01ed5cd5e1af4adb37f8f", func := "sojourner/sojournerlaw19.RoutersBound", spec := "routersBound", unfollowed := true, recurses := true, apart := false }
def RoutersBoundSaid : Prop := routersBoundRow.holds Try.pinned (OpenSpec.ofChange routersBoundSpec)

/-- ITS FALSE NEIGHBOUR: 'it returns false'. Refute it at one input. -/
def routersBoundWrong : ChangeSpec := { name := "routersBound", fn := fun _ => fun
  | [d] => { results := [.lit (.bool false)], args := [d] }
  | _ => none }
def RoutersBoundWrongFalsely : Prop := routersBoundRow.holds Try.pinned (OpenSpec.ofChange routersBoundWrong)

/-- 'sojournerlaw19.RoutersTurn': WHATEVER THE INPUT: true; the input reads as it did. -/
def routersTurnSpec : ChangeSpec := { name := "routersTurn", fn := fun _ => fun
  | [d1, d2] => { results := [.lit (.bool true)], args := [d1, d2] }
  | _ => none }
def routersTurnRow : OpenClaim := { program := "ytnchjbgfmkmbaaa", sum := "4950ec76512346719d2258270a00547249931f7154e01ed5cd5e1af4adb37f8f", func := "sojourner/sojournerlaw19.RoutersTurn", spec := "routersTurn", unfollowed := true, recurses := true, apart := false }
def RoutersTurnSaid : Prop := routersTurnRow.holds Try.pinned (OpenSpec.ofChange routersTurnSpec)

/-- ITS FALSE NEIGHBOUR: 'it returns false'. Refute it at one input. -/
def routersTurnWrong : ChangeSpec := { name := "routersTurn", fn := fun _ => fun
  | [d1, d2] => { results := [.lit (.bool false)], args := [d1, d2] }
  | _ => none }
def RoutersTurnWrongFalsely : Prop := routersTurnRow.holds Try.pinned (OpenSpec.ofChange routersTurnWrong)

/- THE SECOND FORM. 'bulk': how many values and letters a reading holds, each counted each time it is reached (what is shared counts as often as it is met; a slice's spare places count too). A statement '..UptoSaid' is the law's where the arguments, and the package variables that the reading takes, are together of bulk at most 1048576: NARROWER than '..Said'. Prove '..Said' where nothing that the law and all that it calls make is longer than what came in: it says more and counts as full. Else prove '..UptoSaid'. A law counts once. -/
mutual
def uptoBulk {H : Type} : DataW H → Nat
  | .lit (.string bytes) => bytes.length + 1
  | .lit _ => 1
  | .nil => 1
  | .ptr d => uptoBulk d + 1
  | .slice elems spare => uptoBulkAll elems + uptoBulkAll spare + 1
  | .agg parts => uptoBulkAll parts + 1
  | .iface _ d => uptoBulk d + 1
  | .map entries => uptoBulkEntries entries + 1
  | .held _ => 1
def uptoBulkAll {H : Type} : List (DataW H) → Nat
  | [] => 0
  | d :: r => uptoBulk d + uptoBulkAll r
def uptoBulkEntries {H : Type} : List (Lit × DataW H) → Nat
  | [] => 0
  | x :: r => uptoBulkEntry x + uptoBulkEntries r
def uptoBulkEntry {H : Type} : Lit × DataW H → Nat
  | (.string bytes, d) => bytes.length + uptoBulk d + 1
  | (_, d) => uptoBulk d + 1
 end
def uptoSmall : (H : Type) → List (DataW H) → Bool := fun _ ds => decide (uptoBulkAll ds ≤ 1048576)
def OpenSpec.upto (s : _root_.Go.ChangeSpec) : _root_.Go.OpenSpec := { _root_.Go.OpenSpec.ofChange s with cond := some uptoSmall }

/-- 'sojournerlaw19.RoutersNone', WHERE WHAT IT READS IS OF BULK AT MOST 1048576: true; the input reads as it did. -/
def routersNoneUptoRow : OpenClaim := { program := "ytnchjbgfmkmbaaa", sum := "4950ec76512346719d2258270a00547249931f7154e01ed5cd5e1af4adb37f8f", func := "sojourner/sojournerlaw19.RoutersNone", spec := "routersNone", unfollowed := true, recurses := true, apart := false, narrowed := true }
def RoutersNoneUptoSaid : Prop := routersNoneUptoRow.holds Try.pinned (OpenSpec.upto routersNoneSpec)

/-- 'sojournerlaw19.RoutersTime', WHERE WHAT IT READS IS OF BULK AT MOST 1048576: true; the input reads as it did. -/
def routersTimeUptoRow : OpenClaim := { program := "ytnchjbgfmkmbaaa", sum := "4950ec76512346719d2258270a00547249931f7154e01ed5cd5e1af4adb37f8f", func := "sojourner/sojournerlaw19.RoutersTime", spec := "routersTime", unfollowed := true, recurses := true, apart := false, narrowed := true }
def RoutersTimeUptoSaid : Prop := routersTimeUptoRow.holds Try.pinned (OpenSpec.upto routersTimeSpec)

/-- 'sojournerlaw19.RoutersBound', WHERE WHAT IT READS IS OF BULK AT MOST 1048576: true; the input reads as it did. -/
def routersBoundUptoRow : OpenClaim := { program := "ytnchjbgfmkmbaaa", sum := "4950ec76512346719d2258270a00547249931f7154e01ed5cd5e1af4adb37f8f", func := "sojourner/sojournerlaw19.RoutersBound", spec := "routersBound", unfollowed := true, recurses := true, apart := false, narrowed := true }
def RoutersBoundUptoSaid : Prop := routersBoundUptoRow.holds Try.pinned (OpenSpec.upto routersBoundSpec)

/-- 'sojournerlaw19.RoutersTurn', WHERE WHAT IT READS IS OF BULK AT MOST 1048576: true; the input reads as it did. -/
def routersTurnUptoRow : OpenClaim := { program := "ytnchjbgfmkmbaaa", sum := "4950ec76512346719d2258270a00547249931f7154e01ed5cd5e1af4adb37f8f", func := "sojourner/sojournerlaw19.RoutersTurn", spec := "routersTurn", unfollowed := true, recurses := true, apart := false, narrowed := true }
def RoutersTurnUptoSaid : Prop := routersTurnUptoRow.holds Try.pinned (OpenSpec.upto routersTurnSpec)

end Rows
end Go.Proofs.Ytnchjbgfmkmbaaa
