-- By the kit's print, called by a program of this session with functions that are proved by hand.
import Derived.Test.YtcddajdjmlmpdaaMaNetCounts
namespace Go.Proofs.Ytcddajdjmlmpdaa.Print
open Go.RowKit Go.Proofs.YtcddajdjmlmpdaaW.PrintWords
/-- THE ONE PURE STATEMENT of mosaiclaw21_NetCounts. -/
def mosaiclaw21_NetCounts.Pure : Prop := ∀ (l0 : List (S50)), ((l0 : List (S50)).length ≤ maxLen ∧ ∀ x1_ ∈ (l0 : List (S50)), ((Lit.int .i64 (x1_).f0).wf = true) ∧ ((Lit.int .i64 (x1_).f1).wf = true) ∧ (((Lit.int .i64 ((x1_).f2).f0).wf = true) ∧ ((Lit.int .i64 ((x1_).f2).f1).wf = true) ∧ ((((x1_).f2).f2 : ByteArray).size ≤ maxLen))) → mosaiclaw21_NetCounts.f l0 = some true
end Go.Proofs.Ytcddajdjmlmpdaa.Print
