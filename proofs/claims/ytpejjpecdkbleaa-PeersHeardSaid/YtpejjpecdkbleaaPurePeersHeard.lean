/- The pure statement of PeersHeard. -/
import Derived.Test.YtpejjpecdkbleaaPrK
import Derived.Test.YtpejjpecdkbleaaStmPeersHeard
namespace Go.Proofs.Ytpejjpecdkbleaa.Pure
open Go.RowKit Go.Proofs.Ytpejjpecdkbleaa.Print Go.Proofs.YtpejjpecdkbleaaW.PrintWords
set_option linter.unusedVariables false
theorem PeersHeard : mosaiclaw18_PeersHeard.Pure := by
  unfold mosaiclaw18_PeersHeard.Pure
  intros
  rfl
end Go.Proofs.Ytpejjpecdkbleaa.Pure
