-- By the kit's print, called by a program of this session with functions that are proved by hand.
import Derived.Test.YtelcaepenfjloaaPr3
namespace Go.Proofs.Ytelcaepenfjloaa.Print
open Go.RowKit Go.Proofs.YtelcaepenfjloaaW.PrintWords
/-- THE ONE PURE STATEMENT of mosaiclaw01_ShaSums. -/
def mosaiclaw01_ShaSums.Pure : Prop := ∀ (a0 : ByteArray), ((a0 : ByteArray).size ≤ maxLen) → ∃ k, mosaiclaw01_ShaSums.f k a0 = some true
end Go.Proofs.Ytelcaepenfjloaa.Print
