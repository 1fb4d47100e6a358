-- By the kit's print, called by a program of this session with functions that are proved by hand.
import Derived.Test.YtcddajdjmlmpdaaMaNetNil
namespace Go.Proofs.Ytcddajdjmlmpdaa.Print
open Go.RowKit Go.Proofs.YtcddajdjmlmpdaaW.PrintWords
/-- THE ONE PURE STATEMENT of mosaiclaw21_NetNil. -/
def mosaiclaw21_NetNil.Pure : Prop := ∀ (a0_0 : Int) (a0_1 : Int) (a0_2 : Int) (a0_3 : Int) (a0_4 : ByteArray), ((Lit.int .i64 a0_0).wf = true) → ((Lit.int .i64 a0_1).wf = true) → ((Lit.int .i64 a0_2).wf = true) → ((Lit.int .i64 a0_3).wf = true) → ((a0_4 : ByteArray).size ≤ maxLen) → mosaiclaw21_NetNil.f a0_0 a0_1 a0_2 a0_3 a0_4 = some true
end Go.Proofs.Ytcddajdjmlmpdaa.Print
