/- The document's answer: whether a message counts in a packet. No condition but that the table lies where it was laid. -/
import Derived.Test.YtlckfnfmekgnkaaDoorRv133
import Derived.Test.YtlckfnfmekgnkaaDoorRv134
import Derived.Test.YtlckfnfmekgnkaaDoorRv135
import Derived.Test.YtlckfnfmekgnkaaDoorRv136
import Derived.Test.YtlckfnfmekgnkaaDoorRv137
import Derived.Test.YtlckfnfmekgnkaaDoorRv130
import Derived.Test.YtlckfnfmekgnkaaDoorRv143
namespace Go.Proofs.YtlckfnfmekgnkaaDoor
open Go.ChangeShapes Go.WideShapes Go.ChangeAt Go.RowKit Go.Deep
set_option linter.unusedVariables false
set_option linter.unusedSimpArgs false

theorem valid_ref (w : World) (cs ms : Array Value) (p : Pk) (m : Ms) (hp : IsPk cs p) (hm : IsMs w w.heap.size ms m) : Calls Tryd.prog 12 #[.agg cs, .agg ms] w fun e w' => e = .returned (.bool (valid p m)) ∧ Below w.heap.size w w' := by
  by_cases h1 : m.kind = 133; exact ref133 w hp hm h1
  by_cases h2 : m.kind = 134; exact ref134 w hp hm h2
  by_cases h3 : m.kind = 135; exact ref135 w hp hm h3
  by_cases h4 : m.kind = 136; exact ref136 w hp hm h4
  by_cases h5 : m.kind = 137; exact ref137 w hp hm h5
  by_cases h6 : m.kind = 130; exact ref130 w hp hm h6
  by_cases h7 : m.kind = 143; exact ref143 w hp hm h7
  exact refOther w hp hm (by omega) h6 h7
end Go.Proofs.YtlckfnfmekgnkaaDoor
