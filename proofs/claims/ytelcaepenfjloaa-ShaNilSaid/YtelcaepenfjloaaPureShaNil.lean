/- A nil sum refuses all: any text. -/
import Derived.Test.YtelcaepenfjloaaStmShaNil
import Derived.Test.YtelcaepenfjloaaPureSha
namespace Go.Proofs.Ytelcaepenfjloaa.Pure
open Go.RowKit Go.Proofs.Ytelcaepenfjloaa.Print Go.Proofs.YtelcaepenfjloaaW.PrintWords Go.Proofs.YtelcaepenfjloaaW.PrintLast
set_option linter.unusedVariables false

theorem ShaNil : mosaiclaw01_ShaNil.Pure := by
  intro s hs
  exact awake01
end Go.Proofs.Ytelcaepenfjloaa.Pure
