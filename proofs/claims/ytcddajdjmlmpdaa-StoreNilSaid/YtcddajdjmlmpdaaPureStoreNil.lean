/- The pure statement of StoreNil. -/
import Derived.Test.YtcddajdjmlmpdaaPrK
import Derived.Test.YtcddajdjmlmpdaaStmStoreNil
namespace Go.Proofs.Ytcddajdjmlmpdaa.Pure
open Go.RowKit Go.Proofs.Ytcddajdjmlmpdaa.Print Go.Proofs.YtcddajdjmlmpdaaW.PrintWords
set_option linter.unusedVariables false
theorem StoreNil : mosaiclaw14_StoreNil.Pure := by
  unfold mosaiclaw14_StoreNil.Pure
  intros
  rfl
end Go.Proofs.Ytcddajdjmlmpdaa.Pure
