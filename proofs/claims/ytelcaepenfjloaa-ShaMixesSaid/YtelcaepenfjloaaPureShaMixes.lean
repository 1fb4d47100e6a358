/- The pure statement of ShaMixes. -/
import Derived.Test.YtelcaepenfjloaaPrK
import Derived.Test.YtelcaepenfjloaaStmShaMixes
namespace Go.Proofs.Ytelcaepenfjloaa.Pure
open Go.RowKit Go.Proofs.Ytelcaepenfjloaa.Print Go.Proofs.YtelcaepenfjloaaW.PrintWords
set_option linter.unusedVariables false
theorem ShaMixes : mosaiclaw01_ShaMixes.Pure := fun _ _ _ _ => rfl
end Go.Proofs.Ytelcaepenfjloaa.Pure
