-- By the kit's print, called by a program of this session with functions that are proved by hand.
import Derived.Test.YtpejjpecdkbleaaMaPeersHeard
namespace Go.Proofs.Ytpejjpecdkbleaa.Print
open Go.RowKit Go.Proofs.YtpejjpecdkbleaaW.PrintWords
/-- THE ONE PURE STATEMENT of mosaiclaw18_PeersHeard. -/
def mosaiclaw18_PeersHeard.Pure : Prop := ∀ (a0 : Int) (l1 : List Int), ((Lit.int .i64 a0).wf = true) → ((l1 : List Int).length ≤ maxLen ∧ ∀ x1_ ∈ (l1 : List Int), (Lit.int .i64 x1_).wf = true) → mosaiclaw18_PeersHeard.f a0 l1 = some true
end Go.Proofs.Ytpejjpecdkbleaa.Print
