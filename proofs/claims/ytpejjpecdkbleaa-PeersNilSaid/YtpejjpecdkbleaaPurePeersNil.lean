/- The pure statement of PeersNil. -/
import Derived.Test.YtpejjpecdkbleaaPrK
import Derived.Test.YtpejjpecdkbleaaStmPeersNil
namespace Go.Proofs.Ytpejjpecdkbleaa.Pure
open Go.RowKit Go.Proofs.Ytpejjpecdkbleaa.Print Go.Proofs.YtpejjpecdkbleaaW.PrintWords
set_option linter.unusedVariables false
theorem PeersNil : mosaiclaw18_PeersNil.Pure := by
  unfold mosaiclaw18_PeersNil.Pure
  intros
  rfl
end Go.Proofs.Ytpejjpecdkbleaa.Pure
