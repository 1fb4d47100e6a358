-- By the kit's print, called by a program of this session with functions that are proved by hand.
import Derived.Test.YtpejjpecdkbleaaMaPeersRates
namespace Go.Proofs.Ytpejjpecdkbleaa.Print
open Go.RowKit Go.Proofs.YtpejjpecdkbleaaW.PrintWords
/-- THE ONE PURE STATEMENT of mosaiclaw18_PeersRates. -/
def mosaiclaw18_PeersRates.Pure : Prop := ∀ (l0 : List Int) (l1 : List Bool), ((l0 : List Int).length ≤ maxLen ∧ ∀ x1_ ∈ (l0 : List Int), (Lit.int .i64 x1_).wf = true) → ((l1 : List Bool).length ≤ maxLen ∧ ∀ x2_ ∈ (l1 : List Bool), True) → mosaiclaw18_PeersRates.f l0 l1 = some true
end Go.Proofs.Ytpejjpecdkbleaa.Print
