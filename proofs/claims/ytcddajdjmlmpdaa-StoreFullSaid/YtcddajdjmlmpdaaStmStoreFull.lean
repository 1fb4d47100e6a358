-- By the kit's print, called by a program of this session with functions that are proved by hand.
import Derived.Test.YtcddajdjmlmpdaaMaStoreFull
namespace Go.Proofs.Ytcddajdjmlmpdaa.Print
open Go.RowKit Go.Proofs.YtcddajdjmlmpdaaW.PrintWords
/-- THE ONE PURE STATEMENT of mosaiclaw14_StoreFull. -/
def mosaiclaw14_StoreFull.Pure : Prop := ∀ (a0 : Int) (a1 : Int), ((Lit.int .i64 a0).wf = true) → ((Lit.int .i64 a1).wf = true) → mosaiclaw14_StoreFull.f a0 a1 = some true
end Go.Proofs.Ytcddajdjmlmpdaa.Print
