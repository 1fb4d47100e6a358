-- By the kit's print, called by a program of this session with functions that are proved by hand.
import Derived.Test.YtelcaepenfjloaaMaShaParts2
namespace Go.Proofs.Ytelcaepenfjloaa.Print
open Go.RowKit Go.Proofs.YtelcaepenfjloaaW.PrintWords
/-- THE ONE PURE STATEMENT of mosaiclaw01_ShaParts. -/
def mosaiclaw01_ShaParts.Pure : Prop := ∀ (l0 : List ByteArray), ((l0 : List ByteArray).length ≤ maxLen ∧ ∀ x1_ ∈ (l0 : List ByteArray), (x1_ : ByteArray).size ≤ maxLen) → mosaiclaw01_ShaParts.f l0 = some true
end Go.Proofs.Ytelcaepenfjloaa.Print
