/- The pure statement of ShaBlocks. -/
import Derived.Test.YtelcaepenfjloaaPrK
import Derived.Test.YtelcaepenfjloaaStmShaBlocks
namespace Go.Proofs.Ytelcaepenfjloaa.Pure
open Go.RowKit Go.Proofs.Ytelcaepenfjloaa.Print Go.Proofs.YtelcaepenfjloaaW.PrintWords
set_option linter.unusedVariables false
theorem ShaBlocks : mosaiclaw01_ShaBlocks.Pure := fun _ _ => rfl
end Go.Proofs.Ytelcaepenfjloaa.Pure
