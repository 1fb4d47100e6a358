/- The pure statement of PeersRates. -/
import Derived.Test.YtpejjpecdkbleaaPrK
import Derived.Test.YtpejjpecdkbleaaStmPeersRates
namespace Go.Proofs.Ytpejjpecdkbleaa.Pure
open Go.RowKit Go.Proofs.Ytpejjpecdkbleaa.Print Go.Proofs.YtpejjpecdkbleaaW.PrintWords
set_option linter.unusedVariables false
theorem PeersRates : mosaiclaw18_PeersRates.Pure := fun _ _ _ _ => rfl
end Go.Proofs.Ytpejjpecdkbleaa.Pure
