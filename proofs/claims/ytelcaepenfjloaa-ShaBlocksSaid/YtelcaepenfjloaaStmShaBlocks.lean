-- By the kit's print, called by a program of this session with functions that are proved by hand.
import Derived.Test.YtelcaepenfjloaaMaShaBlocks
namespace Go.Proofs.Ytelcaepenfjloaa.Print
open Go.RowKit Go.Proofs.YtelcaepenfjloaaW.PrintWords
/-- THE ONE PURE STATEMENT of mosaiclaw01_ShaBlocks. -/
def mosaiclaw01_ShaBlocks.Pure : Prop := ∀ (a0 : ByteArray), ((a0 : ByteArray).size ≤ maxLen) → mosaiclaw01_ShaBlocks.f a0 = some true
end Go.Proofs.Ytelcaepenfjloaa.Print
