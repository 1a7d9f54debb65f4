/-
  NARROWER THAN 'FOR EVERY INPUT', by the rows' own cells (each row's printed sentence says how): ChecksValid: laid · ChecksHops: laid · ChecksOptions: laid · ChecksDad: laid.
  DERIVED. THE GIVEN ROWS OF THIS SEAT. 4 by the template 'for every input the law returns true; each argument reads behind the call as it read before'; 0 by the template 'total and deterministic' (their statements: YtlckfnfmekgnkaaDoorTotals.lean).
  GIVEN WITH THE SEED: the statements are not yours to turn. If you find one false, say at which input.
  Laid BY PROGRAM, IN A SANDBOX (cutbox-rows.mjs): the forced cells as the released guide's own fill.sh prints them over the translation 81823af299361ba1… (all of the seat's roots in one cut). By AI agents, Wed Nov 11 2026. No macro, syntax, notation, axiom, sorry.
-/
import Derived.Test.YtlckfnfmekgnkaaDoorChecked
import GoSem.Claim
import GoSem.ClaimJoined
import GoSem.ClaimMapViews
import Derived.JoinedTies
import Derived.KernelRfl
namespace Go.Proofs.YtlckfnfmekgnkaaDoor
/- THE CELL 'sum', in the pinned program and in every row, IS THE sha256 OF THE DUMP (.gsa) THAT YtlckfnfmekgnkaaDoorProg.lean LOADS. Nothing in Lean hashes anything: it is a label: what it is worth is what the hold of that sum in a sandbox is worth. -/
noncomputable def Tryd.pinned : Pinned := { name := "ytlckfnfmekgnkaadoor", sum := "81823af299361ba1da60d0a227e4f8255d18e211061bbdbf5bdebf26e4f2536d", checked := Tryd.checked }
namespace Rows
def none {H : Type} : Left H := { results := [], args := [] }

/- WHAT THE LISTED PACKAGE-LEVEL VARIABLES READ AS WHEN THE CALL BEGINS. Each datum BY PROGRAM (the guide's laid-datum.mjs) off the statement by which the dump's own 'gosem.cut.vars' lays the variable. In a bare row this is a premise. The card (YtlckfnfmekgnkaaDoorCards.lean) ties it to the program's text. -/
def laid_sojourner_addrs_known {H : Type} : DataW H := .agg [.agg [.lit (.int .u8 0), .lit (.int .u8 0), .lit (.int .u8 0), .lit (.int .u8 0), .lit (.int .u8 0), .lit (.int .u8 0), .lit (.int .u8 0), .lit (.int .u8 0), .lit (.int .u8 0), .lit (.int .u8 0), .lit (.int .u8 0), .lit (.int .u8 0), .lit (.int .u8 0), .lit (.int .u8 0), .lit (.int .u8 0), .lit (.int .u8 0)], .agg [.lit (.int .u8 0), .lit (.int .u8 0), .lit (.int .u8 0), .lit (.int .u8 0), .lit (.int .u8 0), .lit (.int .u8 0), .lit (.int .u8 0), .lit (.int .u8 0), .lit (.int .u8 0), .lit (.int .u8 0), .lit (.int .u8 0), .lit (.int .u8 0), .lit (.int .u8 0), .lit (.int .u8 0), .lit (.int .u8 0), .lit (.int .u8 1)], .agg [.lit (.int .u8 255), .lit (.int .u8 2), .lit (.int .u8 0), .lit (.int .u8 0), .lit (.int .u8 0), .lit (.int .u8 0), .lit (.int .u8 0), .lit (.int .u8 0), .lit (.int .u8 0), .lit (.int .u8 0), .lit (.int .u8 0), .lit (.int .u8 0), .lit (.int .u8 0), .lit (.int .u8 0), .lit (.int .u8 0), .lit (.int .u8 1)], .agg [.lit (.int .u8 255), .lit (.int .u8 2), .lit (.int .u8 0), .lit (.int .u8 0), .lit (.int .u8 0), .lit (.int .u8 0), .lit (.int .u8 0), .lit (.int .u8 0), .lit (.int .u8 0), .lit (.int .u8 0), .lit (.int .u8 0), .lit (.int .u8 0), .lit (.int .u8 0), .lit (.int .u8 0), .lit (.int .u8 0), .lit (.int .u8 2)], .agg [.lit (.int .u8 255), .lit (.int .u8 2), .lit (.int .u8 0), .lit (.int .u8 0), .lit (.int .u8 0), .lit (.int .u8 0), .lit (.int .u8 0), .lit (.int .u8 0), .lit (.int .u8 0), .lit (.int .u8 0), .lit (.int .u8 0), .lit (.int .u8 0), .lit (.int .u8 0), .lit (.int .u8 0), .lit (.int .u8 0), .lit (.int .u8 22)], .agg [.lit (.int .u8 255), .lit (.int .u8 2), .lit (.int .u8 0), .lit (.int .u8 0), .lit (.int .u8 0), .lit (.int .u8 0), .lit (.int .u8 0), .lit (.int .u8 0), .lit (.int .u8 0), .lit (.int .u8 0), .lit (.int .u8 0), .lit (.int .u8 0), .lit (.int .u8 0), .lit (.int .u8 1), .lit (.int .u8 0), .lit (.int .u8 2)], .agg [.lit (.int .u8 255), .lit (.int .u8 2), .lit (.int .u8 0), .lit (.int .u8 0), .lit (.int .u8 0), .lit (.int .u8 0), .lit (.int .u8 0), .lit (.int .u8 0), .lit (.int .u8 0), .lit (.int .u8 0), .lit (.int .u8 0), .lit (.int .u8 1), .lit (.int .u8 255), .lit (.int .u8 0), .lit (.int .u8 0), .lit (.int .u8 0)]]

/-- 'sojournerlaw12.ChecksValid': WHATEVER THE INPUT: true; the input reads as it did. -/
def checksValidSpec : ChangeSpec := { name := "checksValid", fn := fun _ => fun
  | [d1, d2] => { results := [.lit (.bool true)], args := [d1, d2] }
  | _ => none }
def checksValidRow : OpenClaim := { program := "ytlckfnfmekgnkaadoor", sum := "81823af299361ba1da60d0a227e4f8255d18e211061bbdbf5bdebf26e4f2536d", func := "sojourner/sojournerlaw12.ChecksValid", spec := "checksValid", unfollowed := true, recurses := true, named := ["sojourner/addrs.known"], apart := false, laid := [("sojourner/addrs.known", laid_sojourner_addrs_known)] }
def ChecksValidSaid : Prop := checksValidRow.holds Tryd.pinned (OpenSpec.ofChange checksValidSpec)

/-- ITS FALSE NEIGHBOUR: 'it returns false'. Refute it at one input. -/
def checksValidWrong : ChangeSpec := { name := "checksValid", fn := fun _ => fun
  | [d1, d2] => { results := [.lit (.bool false)], args := [d1, d2] }
  | _ => none }
def ChecksValidWrongFalsely : Prop := checksValidRow.holds Tryd.pinned (OpenSpec.ofChange checksValidWrong)

/-- 'sojournerlaw12.ChecksHops': WHATEVER THE INPUT: true; the input reads as it did. -/
def checksHopsSpec : ChangeSpec := { name := "checksHops", fn := fun _ => fun
  | [d1, d2, d3] => { results := [.lit (.bool true)], args := [d1, d2, d3] }
  | _ => none }
def checksHopsRow : OpenClaim := { program := "ytlckfnfmekgnkaadoor", sum := "81823af299361ba1da60d0a227e4f8255d18e211061bbdbf5bdebf26e4f2536d", func := "sojourner/sojournerlaw12.ChecksHops", spec := "checksHops", unfollowed := true, recurses := true, named := ["sojourner/addrs.known"], apart := false, laid := [("sojourner/addrs.known", laid_sojourner_addrs_known)] }
def ChecksHopsSaid : Prop := checksHopsRow.holds Tryd.pinned (OpenSpec.ofChange checksHopsSpec)

/-- ITS FALSE NEIGHBOUR: 'it returns false'. Refute it at one input. -/
def checksHopsWrong : ChangeSpec := { name := "checksHops", fn := fun _ => fun
  | [d1, d2, d3] => { results := [.lit (.bool false)], args := [d1, d2, d3] }
  | _ => none }
def ChecksHopsWrongFalsely : Prop := checksHopsRow.holds Tryd.pinned (OpenSpec.ofChange checksHopsWrong)

/-- 'sojournerlaw12.ChecksOptions': WHATEVER THE INPUT: true; the input reads as it did. -/
def checksOptionsSpec : ChangeSpec := { name := "checksOptions", fn := fun _ => fun
  | [d1, d2, d3] => { results := [.lit (.bool true)], args := [d1, d2, d3] }
  | _ => none }
def checksOptionsRow : OpenClaim := { program := "ytlckfnfmekgnkaadoor", sum := "81823af299361ba1da60d0a227e4f8255d18e211061bbdbf5bdebf26e4f2536d", func := "sojourner/sojournerlaw12.ChecksOptions", spec := "checksOptions", unfollowed := true, recurses := true, named := ["sojourner/addrs.known"], apart := false, laid := [("sojourner/addrs.known", laid_sojourner_addrs_known)] }
def ChecksOptionsSaid : Prop := checksOptionsRow.holds Tryd.pinned (OpenSpec.ofChange checksOptionsSpec)

/-- ITS FALSE NEIGHBOUR: 'it returns false'. Refute it at one input. -/
def checksOptionsWrong : ChangeSpec := { name := "checksOptions", fn := fun _ => fun
  | [d1, d2, d3] => { results := [.lit (.bool false)], args := [d1, d2, d3] }
  | _ => none }
def ChecksOptionsWrongFalsely : Prop := checksOptionsRow.holds Tryd.pinned (OpenSpec.ofChange checksOptionsWrong)

/-- 'sojournerlaw12.ChecksDad': WHATEVER THE INPUT: true; the input reads as it did. -/
def checksDadSpec : ChangeSpec := { name := "checksDad", fn := fun _ => fun
  | [d1, d2, d3] => { results := [.lit (.bool true)], args := [d1, d2, d3] }
  | _ => none }
def checksDadRow : OpenClaim := { program := "ytlckfnfmekgnkaadoor", sum := "81823af299361ba1da60d0a227e4f8255d18e211061bbdbf5bdebf26e4f2536d", func := "sojourner/sojournerlaw12.ChecksDad", spec := "checksDad", unfollowed := true, recurses := true, named := ["sojourner/addrs.known"], apart := false, laid := [("sojourner/addrs.known", laid_sojourner_addrs_known)] }
def ChecksDadSaid : Prop := checksDadRow.holds Tryd.pinned (OpenSpec.ofChange checksDadSpec)

/-- ITS FALSE NEIGHBOUR: 'it returns false'. Refute it at one input. -/
def checksDadWrong : ChangeSpec := { name := "checksDad", fn := fun _ => fun
  | [d1, d2, d3] => { results := [.lit (.bool false)], args := [d1, d2, d3] }
  | _ => none }
def ChecksDadWrongFalsely : Prop := checksDadRow.holds Tryd.pinned (OpenSpec.ofChange checksDadWrong)

/- THE SECOND FORM. 'bulk': how many values and letters a reading holds, each counted each time it is reached (what is shared counts as often as it is met; a slice's spare places count too). A statement '..UptoSaid' is the law's where the arguments, and the package variables that the reading takes, are together of bulk at most 1048576: NARROWER than '..Said'. Prove '..Said' where nothing that the law and all that it calls make is longer than what came in: it says more and counts as full. Else prove '..UptoSaid'. A law counts once. -/
mutual
def uptoBulk {H : Type} : DataW H → Nat
  | .lit (.string bytes) => bytes.length + 1
  | .lit _ => 1
  | .nil => 1
  | .ptr d => uptoBulk d + 1
  | .slice elems spare => uptoBulkAll elems + uptoBulkAll spare + 1
  | .agg parts => uptoBulkAll parts + 1
  | .iface _ d => uptoBulk d + 1
  | .map entries => uptoBulkEntries entries + 1
  | .held _ => 1
def uptoBulkAll {H : Type} : List (DataW H) → Nat
  | [] => 0
  | d :: r => uptoBulk d + uptoBulkAll r
def uptoBulkEntries {H : Type} : List (Lit × DataW H) → Nat
  | [] => 0
  | x :: r => uptoBulkEntry x + uptoBulkEntries r
def uptoBulkEntry {H : Type} : Lit × DataW H → Nat
  | (.string bytes, d) => bytes.length + uptoBulk d + 1
  | (_, d) => uptoBulk d + 1
 end
def uptoSmall : (H : Type) → List (DataW H) → Bool := fun _ ds => decide (uptoBulkAll ds ≤ 1048576)
def OpenSpec.upto (s : _root_.Go.ChangeSpec) : _root_.Go.OpenSpec := { _root_.Go.OpenSpec.ofChange s with cond := some uptoSmall }

/-- 'sojournerlaw12.ChecksValid', WHERE WHAT IT READS IS OF BULK AT MOST 1048576: true; the input reads as it did. -/
def checksValidUptoRow : OpenClaim := { program := "ytlckfnfmekgnkaadoor", sum := "81823af299361ba1da60d0a227e4f8255d18e211061bbdbf5bdebf26e4f2536d", func := "sojourner/sojournerlaw12.ChecksValid", spec := "checksValid", unfollowed := true, recurses := true, named := ["sojourner/addrs.known"], apart := false, laid := [("sojourner/addrs.known", laid_sojourner_addrs_known)], narrowed := true }
def ChecksValidUptoSaid : Prop := checksValidUptoRow.holds Tryd.pinned (OpenSpec.upto checksValidSpec)

/-- 'sojournerlaw12.ChecksHops', WHERE WHAT IT READS IS OF BULK AT MOST 1048576: true; the input reads as it did. -/
def checksHopsUptoRow : OpenClaim := { program := "ytlckfnfmekgnkaadoor", sum := "81823af299361ba1da60d0a227e4f8255d18e211061bbdbf5bdebf26e4f2536d", func := "sojourner/sojournerlaw12.ChecksHops", spec := "checksHops", unfollowed := true, recurses := true, named := ["sojourner/addrs.known"], apart := false, laid := [("sojourner/addrs.known", laid_sojourner_addrs_known)], narrowed := true }
def ChecksHopsUptoSaid : Prop := checksHopsUptoRow.holds Tryd.pinned (OpenSpec.upto checksHopsSpec)

/-- 'sojournerlaw12.ChecksOptions', WHERE WHAT IT READS IS OF BULK AT MOST 1048576: true; the input reads as it did. -/
def checksOptionsUptoRow : OpenClaim := { program := "ytlckfnfmekgnkaadoor", sum := "81823af299361ba1da60d0a227e4f8255d18e211061bbdbf5bdebf26e4f2536d", func := "sojourner/sojournerlaw12.ChecksOptions", spec := "checksOptions", unfollowed := true, recurses := true, named := ["sojourner/addrs.known"], apart := false, laid := [("sojourner/addrs.known", laid_sojourner_addrs_known)], narrowed := true }
def ChecksOptionsUptoSaid : Prop := checksOptionsUptoRow.holds Tryd.pinned (OpenSpec.upto checksOptionsSpec)

/-- 'sojournerlaw12.ChecksDad', WHERE WHAT IT READS IS OF BULK AT MOST 1048576: true; the input reads as it did. -/
def checksDadUptoRow : OpenClaim := { program := "ytlckfnfmekgnkaadoor", sum := "81823af299361ba1da60d0a227e4f8255d18e211061bbdbf5bdebf26e4f2536d", func := "sojourner/sojournerlaw12.ChecksDad", spec := "checksDad", unfollowed := true, recurses := true, named := ["sojourner/addrs.known"], apart := false, laid := [("sojourner/addrs.known", laid_sojourner_addrs_known)], narrowed := true }
def ChecksDadUptoSaid : Prop := checksDadUptoRow.holds Tryd.pinned (OpenSpec.upto checksDadSpec)

end Rows
end Go.Proofs.YtlckfnfmekgnkaaDoor
