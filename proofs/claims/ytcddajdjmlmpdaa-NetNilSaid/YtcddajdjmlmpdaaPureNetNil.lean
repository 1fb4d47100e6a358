/- The pure statement of NetNil. -/
import Derived.Test.YtcddajdjmlmpdaaPrK
import Derived.Test.YtcddajdjmlmpdaaStmNetNil
namespace Go.Proofs.Ytcddajdjmlmpdaa.Pure
open Go.RowKit Go.Proofs.Ytcddajdjmlmpdaa.Print Go.Proofs.YtcddajdjmlmpdaaW.PrintWords
set_option linter.unusedVariables false
theorem NetNil : mosaiclaw21_NetNil.Pure := by
  unfold mosaiclaw21_NetNil.Pure
  intros
  rfl
end Go.Proofs.Ytcddajdjmlmpdaa.Pure
