-- By the kit's print, called by a program of this session with functions that are proved by hand.
import Derived.Test.YtelcaepenfjloaaPr4
namespace Go.Proofs.Ytelcaepenfjloaa.Print
open Go.RowKit Go.Proofs.YtelcaepenfjloaaW.PrintWords
/-- THE ONE PURE STATEMENT of mosaiclaw01_ShaPads. -/
def mosaiclaw01_ShaPads.Pure : Prop := ∀ (a0 : Int), ((Lit.int .i64 a0).wf = true) → ∃ k, mosaiclaw01_ShaPads.f k a0 = some true
end Go.Proofs.Ytelcaepenfjloaa.Print
