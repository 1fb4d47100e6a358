/-
  No cell of these rows narrows 'for every input' (looked for: loops, veiled, ifaces, maps, wideKeys, modest, calm, conditions, laid).
  DERIVED. THE GIVEN ROWS OF THIS SEAT. 9 by the template 'for every input the law returns true; each argument reads behind the call as it read before'; 0 by the template 'total and deterministic' (their statements: YtpejjpecdkbleaaTotals.lean).
  GIVEN WITH THE SEED: the statements are not yours to turn. If you find one false, say at which input.
  Laid BY PROGRAM, IN A SANDBOX (cutbox-rows.mjs): the forced cells as the released guide's own fill.sh prints them over the translation 72aa7d55c8d783ba… (all of the seat's roots in one cut). By AI agents, Wed Nov 11 2026. No macro, syntax, notation, axiom, sorry.
-/
import Derived.Test.YtpejjpecdkbleaaChecked
import GoSem.Claim
import GoSem.ClaimJoined
import GoSem.ClaimMapViews
import Derived.JoinedTies
import Derived.KernelRfl
namespace Go.Proofs.Ytpejjpecdkbleaa
/- THE CELL 'sum', in the pinned program and in every row, IS THE sha256 OF THE DUMP (.gsa) THAT YtpejjpecdkbleaaProg.lean LOADS. Nothing in Lean hashes anything: it is a label: what it is worth is what the hold of that sum in a sandbox is worth. -/
noncomputable def Try.pinned : Pinned := { name := "ytpejjpecdkbleaa", sum := "72aa7d55c8d783babcb9b87190d39b30b0db14e8ccc807076bc42f4829372d68", checked := Try.checked }
namespace Rows
def none {H : Type} : Left H := { results := [], args := [] }

/-- 'mosaiclaw18.PeersRates': WHATEVER THE INPUT: true; the input reads as it did. -/
def peersRatesSpec : ChangeSpec := { name := "peersRates", fn := fun _ => fun
  | [d1, d2] => { results := [.lit (.bool true)], args := [d1, d2] }
  | _ => none }
def peersRatesRow : OpenClaim := { program := "ytpejjpecdkbleaa", sum := "72aa7d55c8d783babcb9b87190d39b30b0db14e8ccc807076bc42f4829372d68", func := "mosaic/mosaiclaw18.PeersRates", spec := "peersRates", unfollowed := true, recurses := true, apart := false }
def PeersRatesSaid : Prop := peersRatesRow.holds Try.pinned (OpenSpec.ofChange peersRatesSpec)

/-- ITS FALSE NEIGHBOUR: 'it returns false'. Refute it at one input. -/
def peersRatesWrong : ChangeSpec := { name := "peersRates", fn := fun _ => fun
  | [d1, d2] => { results := [.lit (.bool false)], args := [d1, d2] }
  | _ => none }
def PeersRatesWrongFalsely : Prop := peersRatesRow.holds Try.pinned (OpenSpec.ofChange peersRatesWrong)

/-- 'mosaiclaw18.PeersHeard': WHATEVER THE INPUT: true; the input reads as it did. -/
def peersHeardSpec : ChangeSpec := { name := "peersHeard", fn := fun _ => fun
  | [d1, d2] => { results := [.lit (.bool true)], args := [d1, d2] }
  | _ => none }
def peersHeardRow : OpenClaim := { program := "ytpejjpecdkbleaa", sum := "72aa7d55c8d783babcb9b87190d39b30b0db14e8ccc807076bc42f4829372d68", func := "mosaic/mosaiclaw18.PeersHeard", spec := "peersHeard", unfollowed := true, recurses := true, apart := false }
def PeersHeardSaid : Prop := peersHeardRow.holds Try.pinned (OpenSpec.ofChange peersHeardSpec)

/-- ITS FALSE NEIGHBOUR: 'it returns false'. Refute it at one input. -/
def peersHeardWrong : ChangeSpec := { name := "peersHeard", fn := fun _ => fun
  | [d1, d2] => { results := [.lit (.bool false)], args := [d1, d2] }
  | _ => none }
def PeersHeardWrongFalsely : Prop := peersHeardRow.holds Try.pinned (OpenSpec.ofChange peersHeardWrong)

/-- 'mosaiclaw18.PeersBanned': WHATEVER THE INPUT: true; the input reads as it did. -/
def peersBannedSpec : ChangeSpec := { name := "peersBanned", fn := fun _ => fun
  | [d1, d2, d3] => { results := [.lit (.bool true)], args := [d1, d2, d3] }
  | _ => none }
def peersBannedRow : OpenClaim := { program := "ytpejjpecdkbleaa", sum := "72aa7d55c8d783babcb9b87190d39b30b0db14e8ccc807076bc42f4829372d68", func := "mosaic/mosaiclaw18.PeersBanned", spec := "peersBanned", unfollowed := true, recurses := true, apart := false }
def PeersBannedSaid : Prop := peersBannedRow.holds Try.pinned (OpenSpec.ofChange peersBannedSpec)

/-- ITS FALSE NEIGHBOUR: 'it returns false'. Refute it at one input. -/
def peersBannedWrong : ChangeSpec := { name := "peersBanned", fn := fun _ => fun
  | [d1, d2, d3] => { results := [.lit (.bool false)], args := [d1, d2, d3] }
  | _ => none }
def PeersBannedWrongFalsely : Prop := peersBannedRow.holds Try.pinned (OpenSpec.ofChange peersBannedWrong)

/-- 'mosaiclaw18.PeersPlays': WHATEVER THE INPUT: true; the input reads as it did. -/
def peersPlaysSpec : ChangeSpec := { name := "peersPlays", fn := fun _ => fun
  | [d1, d2, d3] => { results := [.lit (.bool true)], args := [d1, d2, d3] }
  | _ => none }
def peersPlaysRow : OpenClaim := { program := "ytpejjpecdkbleaa", sum := "72aa7d55c8d783babcb9b87190d39b30b0db14e8ccc807076bc42f4829372d68", func := "mosaic/mosaiclaw18.PeersPlays", spec := "peersPlays", unfollowed := true, recurses := true, apart := false }
def PeersPlaysSaid : Prop := peersPlaysRow.holds Try.pinned (OpenSpec.ofChange peersPlaysSpec)

/-- ITS FALSE NEIGHBOUR: 'it returns false'. Refute it at one input. -/
def peersPlaysWrong : ChangeSpec := { name := "peersPlays", fn := fun _ => fun
  | [d1, d2, d3] => { results := [.lit (.bool false)], args := [d1, d2, d3] }
  | _ => none }
def PeersPlaysWrongFalsely : Prop := peersPlaysRow.holds Try.pinned (OpenSpec.ofChange peersPlaysWrong)

/-- 'mosaiclaw18.PeersNil': WHATEVER THE INPUT: true; the input reads as it did. -/
def peersNilSpec : ChangeSpec := { name := "peersNil", fn := fun _ => fun
  | [d] => { results := [.lit (.bool true)], args := [d] }
  | _ => none }
def peersNilRow : OpenClaim := { program := "ytpejjpecdkbleaa", sum := "72aa7d55c8d783babcb9b87190d39b30b0db14e8ccc807076bc42f4829372d68", func := "mosaic/mosaiclaw18.PeersNil", spec := "peersNil", unfollowed := true, recurses := true, apart := false }
def PeersNilSaid : Prop := peersNilRow.holds Try.pinned (OpenSpec.ofChange peersNilSpec)

/-- ITS FALSE NEIGHBOUR: 'it returns false'. Refute it at one input. -/
def peersNilWrong : ChangeSpec := { name := "peersNil", fn := fun _ => fun
  | [d] => { results := [.lit (.bool false)], args := [d] }
  | _ => none }
def PeersNilWrongFalsely : Prop := peersNilRow.holds Try.pinned (OpenSpec.ofChange peersNilWrong)

/-- 'mosaiclaw19.ChokeChooses': WHATEVER THE INPUT: true; the input reads as it did. -/
def chokeChoosesSpec : ChangeSpec := { name := "chokeChooses", fn := fun _ => fun
  | [d1, d2] => { results := [.lit (.bool true)], args := [d1, d2] }
  | _ => none }
def chokeChoosesRow : OpenClaim := { program := "ytpejjpecdkbleaa", sum := "72aa7d55c8d783babcb9b87190d39b30b0db14e8ccc807076bc42f4829372d68", func := "mosaic/mosaiclaw19.ChokeChooses", spec := "chokeChooses", unfollowed := true, recurses := true, apart := false }
def ChokeChoosesSaid : Prop := chokeChoosesRow.holds Try.pinned (OpenSpec.ofChange chokeChoosesSpec)

/-- ITS FALSE NEIGHBOUR: 'it returns false'. Refute it at one input. -/
def chokeChoosesWrong : ChangeSpec := { name := "chokeChooses", fn := fun _ => fun
  | [d1, d2] => { results := [.lit (.bool false)], args := [d1, d2] }
  | _ => none }
def ChokeChoosesWrongFalsely : Prop := chokeChoosesRow.holds Try.pinned (OpenSpec.ofChange chokeChoosesWrong)

/-- 'mosaiclaw19.ChokeSlots': WHATEVER THE INPUT: true; the input reads as it did. -/
def chokeSlotsSpec : ChangeSpec := { name := "chokeSlots", fn := fun _ => fun
  | [d1, d2] => { results := [.lit (.bool true)], args := [d1, d2] }
  | _ => none }
def chokeSlotsRow : OpenClaim := { program := "ytpejjpecdkbleaa", sum := "72aa7d55c8d783babcb9b87190d39b30b0db14e8ccc807076bc42f4829372d68", func := "mosaic/mosaiclaw19.ChokeSlots", spec := "chokeSlots", unfollowed := true, recurses := true, apart := false }
def ChokeSlotsSaid : Prop := chokeSlotsRow.holds Try.pinned (OpenSpec.ofChange chokeSlotsSpec)

/-- ITS FALSE NEIGHBOUR: 'it returns false'. Refute it at one input. -/
def chokeSlotsWrong : ChangeSpec := { name := "chokeSlots", fn := fun _ => fun
  | [d1, d2] => { results := [.lit (.bool false)], args := [d1, d2] }
  | _ => none }
def ChokeSlotsWrongFalsely : Prop := chokeSlotsRow.holds Try.pinned (OpenSpec.ofChange chokeSlotsWrong)

/-- 'mosaiclaw19.ChokeLots': WHATEVER THE INPUT: true; the input reads as it did. -/
def chokeLotsSpec : ChangeSpec := { name := "chokeLots", fn := fun _ => fun
  | [d1, d2] => { results := [.lit (.bool true)], args := [d1, d2] }
  | _ => none }
def chokeLotsRow : OpenClaim := { program := "ytpejjpecdkbleaa", sum := "72aa7d55c8d783babcb9b87190d39b30b0db14e8ccc807076bc42f4829372d68", func := "mosaic/mosaiclaw19.ChokeLots", spec := "chokeLots", unfollowed := true, recurses := true, apart := false }
def ChokeLotsSaid : Prop := chokeLotsRow.holds Try.pinned (OpenSpec.ofChange chokeLotsSpec)

/-- ITS FALSE NEIGHBOUR: 'it returns false'. Refute it at one input. -/
def chokeLotsWrong : ChangeSpec := { name := "chokeLots", fn := fun _ => fun
  | [d1, d2] => { results := [.lit (.bool false)], args := [d1, d2] }
  | _ => none }
def ChokeLotsWrongFalsely : Prop := chokeLotsRow.holds Try.pinned (OpenSpec.ofChange chokeLotsWrong)

/-- 'mosaiclaw19.ChokeTurns': WHATEVER THE INPUT: true; the input reads as it did. -/
def chokeTurnsSpec : ChangeSpec := { name := "chokeTurns", fn := fun _ => fun
  | [d1, d2] => { results := [.lit (.bool true)], args := [d1, d2] }
  | _ => none }
def chokeTurnsRow : OpenClaim := { program := "ytpejjpecdkbleaa", sum := "72aa7d55c8d783babcb9b87190d39b30b0db14e8ccc807076bc42f4829372d68", func := "mosaic/mosaiclaw19.ChokeTurns", spec := "chokeTurns", unfollowed := true, recurses := true, apart := false }
def ChokeTurnsSaid : Prop := chokeTurnsRow.holds Try.pinned (OpenSpec.ofChange chokeTurnsSpec)

/-- ITS FALSE NEIGHBOUR: 'it returns false'. Refute it at one input. -/
def chokeTurnsWrong : ChangeSpec := { name := "chokeTurns", fn := fun _ => fun
  | [d1, d2] => { results := [.lit (.bool false)], args := [d1, d2] }
  | _ => none }
def ChokeTurnsWrongFalsely : Prop := chokeTurnsRow.holds Try.pinned (OpenSpec.ofChange chokeTurnsWrong)

/- THE SECOND FORM. 'bulk': how many values and letters a reading holds, each counted each time it is reached (what is shared counts as often as it is met; a slice's spare places count too). A statement '..UptoSaid' is the law's where the arguments, and the package variables that the reading takes, are together of bulk at most 1048576: NARROWER than '..Said'. Prove '..Said' where nothing that the law and all that it calls make is longer than what came in: it says more and counts as full. Else prove '..UptoSaid'. A law counts once. -/
mutual
def uptoBulk {H : Type} : DataW H → Nat
  | .lit (.string bytes) => bytes.length + 1
  | .lit _ => 1
  | .nil => 1
  | .ptr d => uptoBulk d + 1
  | .slice elems spare => uptoBulkAll elems + uptoBulkAll spare + 1
  | .agg parts => uptoBulkAll parts + 1
  | .iface _ d => uptoBulk d + 1
  | .map entries => uptoBulkEntries entries + 1
  | .held _ => 1
def uptoBulkAll {H : Type} : List (DataW H) → Nat
  | [] => 0
  | d :: r => uptoBulk d + uptoBulkAll r
def uptoBulkEntries {H : Type} : List (Lit × DataW H) → Nat
  | [] => 0
  | x :: r => uptoBulkEntry x + uptoBulkEntries r
def uptoBulkEntry {H : Type} : Lit × DataW H → Nat
  | (.string bytes, d) => bytes.length + uptoBulk d + 1
  | (_, d) => uptoBulk d + 1
 end
def uptoSmall : (H : Type) → List (DataW H) → Bool := fun _ ds => decide (uptoBulkAll ds ≤ 1048576)
def OpenSpec.upto (s : _root_.Go.ChangeSpec) : _root_.Go.OpenSpec := { _root_.Go.OpenSpec.ofChange s with cond := some uptoSmall }

/-- 'mosaiclaw18.PeersRates', WHERE WHAT IT READS IS OF BULK AT MOST 1048576: true; the input reads as it did. -/
def peersRatesUptoRow : OpenClaim := { program := "ytpejjpecdkbleaa", sum := "72aa7d55c8d783babcb9b87190d39b30b0db14e8ccc807076bc42f4829372d68", func := "mosaic/mosaiclaw18.PeersRates", spec := "peersRates", unfollowed := true, recurses := true, apart := false, narrowed := true }
def PeersRatesUptoSaid : Prop := peersRatesUptoRow.holds Try.pinned (OpenSpec.upto peersRatesSpec)

/-- 'mosaiclaw18.PeersHeard', WHERE WHAT IT READS IS OF BULK AT MOST 1048576: true; the input reads as it did. -/
def peersHeardUptoRow : OpenClaim := { program := "ytpejjpecdkbleaa", sum := "72aa7d55c8d783babcb9b87190d39b30b0db14e8ccc807076bc42f4829372d68", func := "mosaic/mosaiclaw18.PeersHeard", spec := "peersHeard", unfollowed := true, recurses := true, apart := false, narrowed := true }
def PeersHeardUptoSaid : Prop := peersHeardUptoRow.holds Try.pinned (OpenSpec.upto peersHeardSpec)

/-- 'mosaiclaw18.PeersBanned', WHERE WHAT IT READS IS OF BULK AT MOST 1048576: true; the input reads as it did. -/
def peersBannedUptoRow : OpenClaim := { program := "ytpejjpecdkbleaa", sum := "72aa7d55c8d783babcb9b87190d39b30b0db14e8ccc807076bc42f4829372d68", func := "mosaic/mosaiclaw18.PeersBanned", spec := "peersBanned", unfollowed := true, recurses := true, apart := false, narrowed := true }
def PeersBannedUptoSaid : Prop := peersBannedUptoRow.holds Try.pinned (OpenSpec.upto peersBannedSpec)

/-- 'mosaiclaw18.PeersPlays', WHERE WHAT IT READS IS OF BULK AT MOST 1048576: true; the input reads as it did. -/
def peersPlaysUptoRow : OpenClaim := { program := "ytpejjpecdkbleaa", sum := "72aa7d55c8d783babcb9b87190d39b30b0db14e8ccc807076bc42f4829372d68", func := "mosaic/mosaiclaw18.PeersPlays", spec := "peersPlays", unfollowed := true, recurses := true, apart := false, narrowed := true }
def PeersPlaysUptoSaid : Prop := peersPlaysUptoRow.holds Try.pinned (OpenSpec.upto peersPlaysSpec)

/-- 'mosaiclaw18.PeersNil', WHERE WHAT IT READS IS OF BULK AT MOST 1048576: true; the input reads as it did. -/
def peersNilUptoRow : OpenClaim := { program := "ytpejjpecdkbleaa", sum := "72aa7d55c8d783babcb9b87190d39b30b0db14e8ccc807076bc42f4829372d68", func := "mosaic/mosaiclaw18.PeersNil", spec := "peersNil", unfollowed := true, recurses := true, apart := false, narrowed := true }
def PeersNilUptoSaid : Prop := peersNilUptoRow.holds Try.pinned (OpenSpec.upto peersNilSpec)

/-- 'mosaiclaw19.ChokeChooses', WHERE WHAT IT READS IS OF BULK AT MOST 1048576: true; the input reads as it did. -/
def chokeChoosesUptoRow : OpenClaim := { program := "ytpejjpecdkbleaa", sum := "72aa7d55c8d783babcb9b87190d39b30b0db14e8ccc807076bc42f4829372d68", func := "mosaic/mosaiclaw19.ChokeChooses", spec := "chokeChooses", unfollowed := true, recurses := true, apart := false, narrowed := true }
def ChokeChoosesUptoSaid : Prop := chokeChoosesUptoRow.holds Try.pinned (OpenSpec.upto chokeChoosesSpec)

/-- 'mosaiclaw19.ChokeSlots', WHERE WHAT IT READS IS OF BULK AT MOST 1048576: true; the input reads as it did. -/
def chokeSlotsUptoRow : OpenClaim := { program := "ytpejjpecdkbleaa", sum := "72aa7d55c8d783babcb9b87190d39b30b0db14e8ccc807076bc42f4829372d68", func := "mosaic/mosaiclaw19.ChokeSlots", spec := "chokeSlots", unfollowed := true, recurses := true, apart := false, narrowed := true }
def ChokeSlotsUptoSaid : Prop := chokeSlotsUptoRow.holds Try.pinned (OpenSpec.upto chokeSlotsSpec)

/-- 'mosaiclaw19.ChokeLots', WHERE WHAT IT READS IS OF BULK AT MOST 1048576: true; the input reads as it did. -/
def chokeLotsUptoRow : OpenClaim := { program := "ytpejjpecdkbleaa", sum := "72aa7d55c8d783babcb9b87190d39b30b0db14e8ccc807076bc42f4829372d68", func := "mosaic/mosaiclaw19.ChokeLots", spec := "chokeLots", unfollowed := true, recurses := true, apart := false, narrowed := true }
def ChokeLotsUptoSaid : Prop := chokeLotsUptoRow.holds Try.pinned (OpenSpec.upto chokeLotsSpec)

/-- 'mosaiclaw19.ChokeTurns', WHERE WHAT IT READS IS OF BULK AT MOST 1048576: true; the input reads as it did. -/
def chokeTurnsUptoRow : OpenClaim := { program := "ytpejjpecdkbleaa", sum := "72aa7d55c8d783babcb9b87190d39b30b0db14e8ccc807076bc42f4829372d68", func := "mosaic/mosaiclaw19.ChokeTurns", spec := "chokeTurns", unfollowed := true, recurses := true, apart := false, narrowed := true }
def ChokeTurnsUptoSaid : Prop := chokeTurnsUptoRow.holds Try.pinned (OpenSpec.upto chokeTurnsSpec)

end Rows
end Go.Proofs.Ytpejjpecdkbleaa
