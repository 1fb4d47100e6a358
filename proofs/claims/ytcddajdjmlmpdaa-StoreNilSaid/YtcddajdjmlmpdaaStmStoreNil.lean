-- By the kit's print, called by a program of this session with functions that are proved by hand.
import Derived.Test.YtcddajdjmlmpdaaMaStoreNil
namespace Go.Proofs.Ytcddajdjmlmpdaa.Print
open Go.RowKit Go.Proofs.YtcddajdjmlmpdaaW.PrintWords
/-- THE ONE PURE STATEMENT of mosaiclaw14_StoreNil. -/
def mosaiclaw14_StoreNil.Pure : Prop := ∀ (a0_0 : Int) (a0_1 : Int) (a0_2 : Int) (a0_3 : Int) (a0_4 : ByteArray) (l0_5 : List Int) (a0_6 : ByteArray) (a1 : Int), ((Lit.int .i64 a0_0).wf = true) → ((Lit.int .i64 a0_1).wf = true) → ((Lit.int .i64 a0_2).wf = true) → ((Lit.int .i64 a0_3).wf = true) → ((a0_4 : ByteArray).size ≤ maxLen) → ((l0_5 : List Int).length ≤ maxLen ∧ ∀ x1_ ∈ (l0_5 : List Int), (Lit.int .i64 x1_).wf = true) → ((a0_6 : ByteArray).size ≤ maxLen) → ((Lit.int .i64 a1).wf = true) → mosaiclaw14_StoreNil.f a0_0 a0_1 a0_2 a0_3 a0_4 l0_5 a0_6 a1 = some true
end Go.Proofs.Ytcddajdjmlmpdaa.Print
