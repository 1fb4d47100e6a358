/- The pure statement of ShaParts. -/
import Derived.Test.YtelcaepenfjloaaPrK
import Derived.Test.YtelcaepenfjloaaStmShaParts
namespace Go.Proofs.Ytelcaepenfjloaa.Pure
open Go.RowKit Go.Proofs.Ytelcaepenfjloaa.Print Go.Proofs.YtelcaepenfjloaaW.PrintWords
set_option linter.unusedVariables false
theorem ShaParts : mosaiclaw01_ShaParts.Pure := fun _ _ => rfl
end Go.Proofs.Ytelcaepenfjloaa.Pure
