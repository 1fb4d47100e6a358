-- By the kit's print, called by a program of this session with functions that are proved by hand.
import Derived.Test.YtelcaepenfjloaaMaShaMixes2
namespace Go.Proofs.Ytelcaepenfjloaa.Print
open Go.RowKit Go.Proofs.YtelcaepenfjloaaW.PrintWords
/-- THE ONE PURE STATEMENT of mosaiclaw01_ShaMixes. -/
def mosaiclaw01_ShaMixes.Pure : Prop := ∀ (l0 : List Int) (a1 : ByteArray), ((l0 : List Int).length = 8 ∧ ∀ x1_ ∈ (l0 : List Int), (Lit.int .u32 x1_).wf = true) → ((a1 : ByteArray).size ≤ maxLen) → mosaiclaw01_ShaMixes.f l0 a1 = some true
end Go.Proofs.Ytelcaepenfjloaa.Print
