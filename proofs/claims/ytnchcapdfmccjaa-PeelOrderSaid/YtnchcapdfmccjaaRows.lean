/-
  No cell of these rows narrows 'for every input' (looked for: loops, veiled, ifaces, maps, wideKeys, modest, calm, conditions, laid).
  DERIVED. THE GIVEN ROWS OF THIS SEAT. 14 by the template 'for every input the law returns true; each argument reads behind the call as it read before'; 0 by the template 'total and deterministic' (their statements: YtnchcapdfmccjaaTotals.lean).
  GIVEN WITH THE SEED: the statements are not yours to turn. If you find one false, say at which input.
  Laid BY PROGRAM, IN A SANDBOX (cutbox-rows.mjs): the forced cells as the released guide's own fill.sh prints them over the translation 414f88b2d7e503df… (all of the seat's roots in one cut). By AI agents, Wed Nov 11 2026. No macro, syntax, notation, axiom, sorry.
-/
import Derived.Test.YtnchcapdfmccjaaChecked
import GoSem.Claim
import GoSem.ClaimJoined
import GoSem.ClaimMapViews
import Derived.JoinedTies
import Derived.KernelRfl
namespace Go.Proofs.Ytnchcapdfmccjaa
/- THE CELL 'sum', in the pinned program and in every row, IS THE sha256 OF THE DUMP (.gsa) THAT YtnchcapdfmccjaaProg.lean LOADS. Nothing in Lean hashes anything: it is a label: what it is worth is what the hold of that sum in a sandbox is worth. -/
noncomputable def Try.pinned : Pinned := { name := "ytnchcapdfmccjaa", sum := "414f88b2d7e503dfb41ba0355970bc193762f35c74ce7687f948bca149359c7a", checked := Try.checked }
namespace Rows
def none {H : Type} : Left H := { results := [], args := [] }

/-- 'mosaiclaw13.PeelOrder': WHATEVER THE INPUT: true; the input reads as it did. -/
def peelOrderSpec : ChangeSpec := { name := "peelOrder", fn := fun _ => fun
  | [d1, d2, d3] => { results := [.lit (.bool true)], args := [d1, d2, d3] }
  | _ => none }
def peelOrderRow : OpenClaim := { program := "ytnchcapdfmccjaa", sum := "414f88b2d7e503dfb41ba0355970bc193762f35c74ce7687f948bca149359c7a", func := "mosaic/mosaiclaw13.PeelOrder", spec := "peelOrder", unfollowed := true, recurses := true, apart := false }
def PeelOrderSaid : Prop := peelOrderRow.holds Try.pinned (OpenSpec.ofChange peelOrderSpec)

/-- ITS FALSE NEIGHBOUR: 'it returns false'. Refute it at one input. -/
def peelOrderWrong : ChangeSpec := { name := "peelOrder", fn := fun _ => fun
  | [d1, d2, d3] => { results := [.lit (.bool false)], args := [d1, d2, d3] }
  | _ => none }
def PeelOrderWrongFalsely : Prop := peelOrderRow.holds Try.pinned (OpenSpec.ofChange peelOrderWrong)

/-- 'mosaiclaw13.PeelGrows': WHATEVER THE INPUT: true; the input reads as it did. -/
def peelGrowsSpec : ChangeSpec := { name := "peelGrows", fn := fun _ => fun
  | [d1, d2, d3] => { results := [.lit (.bool true)], args := [d1, d2, d3] }
  | _ => none }
def peelGrowsRow : OpenClaim := { program := "ytnchcapdfmccjaa", sum := "414f88b2d7e503dfb41ba0355970bc193762f35c74ce7687f948bca149359c7a", func := "mosaic/mosaiclaw13.PeelGrows", spec := "peelGrows", unfollowed := true, recurses := true, apart := false }
def PeelGrowsSaid : Prop := peelGrowsRow.holds Try.pinned (OpenSpec.ofChange peelGrowsSpec)

/-- ITS FALSE NEIGHBOUR: 'it returns false'. Refute it at one input. -/
def peelGrowsWrong : ChangeSpec := { name := "peelGrows", fn := fun _ => fun
  | [d1, d2, d3] => { results := [.lit (.bool false)], args := [d1, d2, d3] }
  | _ => none }
def PeelGrowsWrongFalsely : Prop := peelGrowsRow.holds Try.pinned (OpenSpec.ofChange peelGrowsWrong)

/-- 'mosaiclaw13.PeelSteps': WHATEVER THE INPUT: true; the input reads as it did. -/
def peelStepsSpec : ChangeSpec := { name := "peelSteps", fn := fun _ => fun
  | [d1, d2, d3] => { results := [.lit (.bool true)], args := [d1, d2, d3] }
  | _ => none }
def peelStepsRow : OpenClaim := { program := "ytnchcapdfmccjaa", sum := "414f88b2d7e503dfb41ba0355970bc193762f35c74ce7687f948bca149359c7a", func := "mosaic/mosaiclaw13.PeelSteps", spec := "peelSteps", unfollowed := true, recurses := true, apart := false }
def PeelStepsSaid : Prop := peelStepsRow.holds Try.pinned (OpenSpec.ofChange peelStepsSpec)

/-- ITS FALSE NEIGHBOUR: 'it returns false'. Refute it at one input. -/
def peelStepsWrong : ChangeSpec := { name := "peelSteps", fn := fun _ => fun
  | [d1, d2, d3] => { results := [.lit (.bool false)], args := [d1, d2, d3] }
  | _ => none }
def PeelStepsWrongFalsely : Prop := peelStepsRow.holds Try.pinned (OpenSpec.ofChange peelStepsWrong)

/-- 'mosaiclaw12.GaussReduces': WHATEVER THE INPUT: true; the input reads as it did. -/
def gaussReducesSpec : ChangeSpec := { name := "gaussReduces", fn := fun _ => fun
  | [d1, d2] => { results := [.lit (.bool true)], args := [d1, d2] }
  | _ => none }
def gaussReducesRow : OpenClaim := { program := "ytnchcapdfmccjaa", sum := "414f88b2d7e503dfb41ba0355970bc193762f35c74ce7687f948bca149359c7a", func := "mosaic/mosaiclaw12.GaussReduces", spec := "gaussReduces", unfollowed := true, recurses := true, apart := false }
def GaussReducesSaid : Prop := gaussReducesRow.holds Try.pinned (OpenSpec.ofChange gaussReducesSpec)

/-- ITS FALSE NEIGHBOUR: 'it returns false'. Refute it at one input. -/
def gaussReducesWrong : ChangeSpec := { name := "gaussReduces", fn := fun _ => fun
  | [d1, d2] => { results := [.lit (.bool false)], args := [d1, d2] }
  | _ => none }
def GaussReducesWrongFalsely : Prop := gaussReducesRow.holds Try.pinned (OpenSpec.ofChange gaussReducesWrong)

/-- 'mosaiclaw12.GaussForm': WHATEVER THE INPUT: true; the input reads as it did. -/
def gaussFormSpec : ChangeSpec := { name := "gaussForm", fn := fun _ => fun
  | [d1, d2] => { results := [.lit (.bool true)], args := [d1, d2] }
  | _ => none }
def gaussFormRow : OpenClaim := { program := "ytnchcapdfmccjaa", sum := "414f88b2d7e503dfb41ba0355970bc193762f35c74ce7687f948bca149359c7a", func := "mosaic/mosaiclaw12.GaussForm", spec := "gaussForm", unfollowed := true, recurses := true, apart := false }
def GaussFormSaid : Prop := gaussFormRow.holds Try.pinned (OpenSpec.ofChange gaussFormSpec)

/-- ITS FALSE NEIGHBOUR: 'it returns false'. Refute it at one input. -/
def gaussFormWrong : ChangeSpec := { name := "gaussForm", fn := fun _ => fun
  | [d1, d2] => { results := [.lit (.bool false)], args := [d1, d2] }
  | _ => none }
def GaussFormWrongFalsely : Prop := gaussFormRow.holds Try.pinned (OpenSpec.ofChange gaussFormWrong)

/-- 'mosaiclaw12.GaussOrder': WHATEVER THE INPUT: true; the input reads as it did. -/
def gaussOrderSpec : ChangeSpec := { name := "gaussOrder", fn := fun _ => fun
  | [d1, d2, d3] => { results := [.lit (.bool true)], args := [d1, d2, d3] }
  | _ => none }
def gaussOrderRow : OpenClaim := { program := "ytnchcapdfmccjaa", sum := "414f88b2d7e503dfb41ba0355970bc193762f35c74ce7687f948bca149359c7a", func := "mosaic/mosaiclaw12.GaussOrder", spec := "gaussOrder", unfollowed := true, recurses := true, apart := false }
def GaussOrderSaid : Prop := gaussOrderRow.holds Try.pinned (OpenSpec.ofChange gaussOrderSpec)

/-- ITS FALSE NEIGHBOUR: 'it returns false'. Refute it at one input. -/
def gaussOrderWrong : ChangeSpec := { name := "gaussOrder", fn := fun _ => fun
  | [d1, d2, d3] => { results := [.lit (.bool false)], args := [d1, d2, d3] }
  | _ => none }
def GaussOrderWrongFalsely : Prop := gaussOrderRow.holds Try.pinned (OpenSpec.ofChange gaussOrderWrong)

/-- 'mosaiclaw12.GaussMore': WHATEVER THE INPUT: true; the input reads as it did. -/
def gaussMoreSpec : ChangeSpec := { name := "gaussMore", fn := fun _ => fun
  | [d1, d2, d3] => { results := [.lit (.bool true)], args := [d1, d2, d3] }
  | _ => none }
def gaussMoreRow : OpenClaim := { program := "ytnchcapdfmccjaa", sum := "414f88b2d7e503dfb41ba0355970bc193762f35c74ce7687f948bca149359c7a", func := "mosaic/mosaiclaw12.GaussMore", spec := "gaussMore", unfollowed := true, recurses := true, apart := false }
def GaussMoreSaid : Prop := gaussMoreRow.holds Try.pinned (OpenSpec.ofChange gaussMoreSpec)

/-- ITS FALSE NEIGHBOUR: 'it returns false'. Refute it at one input. -/
def gaussMoreWrong : ChangeSpec := { name := "gaussMore", fn := fun _ => fun
  | [d1, d2, d3] => { results := [.lit (.bool false)], args := [d1, d2, d3] }
  | _ => none }
def GaussMoreWrongFalsely : Prop := gaussMoreRow.holds Try.pinned (OpenSpec.ofChange gaussMoreWrong)

/-- 'mosaiclaw13.PeelNeeds': WHATEVER THE INPUT: true; the input reads as it did. -/
def peelNeedsSpec : ChangeSpec := { name := "peelNeeds", fn := fun _ => fun
  | [d1, d2, d3] => { results := [.lit (.bool true)], args := [d1, d2, d3] }
  | _ => none }
def peelNeedsRow : OpenClaim := { program := "ytnchcapdfmccjaa", sum := "414f88b2d7e503dfb41ba0355970bc193762f35c74ce7687f948bca149359c7a", func := "mosaic/mosaiclaw13.PeelNeeds", spec := "peelNeeds", unfollowed := true, recurses := true, apart := false }
def PeelNeedsSaid : Prop := peelNeedsRow.holds Try.pinned (OpenSpec.ofChange peelNeedsSpec)

/-- ITS FALSE NEIGHBOUR: 'it returns false'. Refute it at one input. -/
def peelNeedsWrong : ChangeSpec := { name := "peelNeeds", fn := fun _ => fun
  | [d1, d2, d3] => { results := [.lit (.bool false)], args := [d1, d2, d3] }
  | _ => none }
def PeelNeedsWrongFalsely : Prop := peelNeedsRow.holds Try.pinned (OpenSpec.ofChange peelNeedsWrong)

/-- 'mosaiclaw13.PeelGauss': WHATEVER THE INPUT: true; the input reads as it did. -/
def peelGaussSpec : ChangeSpec := { name := "peelGauss", fn := fun _ => fun
  | [d1, d2, d3] => { results := [.lit (.bool true)], args := [d1, d2, d3] }
  | _ => none }
def peelGaussRow : OpenClaim := { program := "ytnchcapdfmccjaa", sum := "414f88b2d7e503dfb41ba0355970bc193762f35c74ce7687f948bca149359c7a", func := "mosaic/mosaiclaw13.PeelGauss", spec := "peelGauss", unfollowed := true, recurses := true, apart := false }
def PeelGaussSaid : Prop := peelGaussRow.holds Try.pinned (OpenSpec.ofChange peelGaussSpec)

/-- ITS FALSE NEIGHBOUR: 'it returns false'. Refute it at one input. -/
def peelGaussWrong : ChangeSpec := { name := "peelGauss", fn := fun _ => fun
  | [d1, d2, d3] => { results := [.lit (.bool false)], args := [d1, d2, d3] }
  | _ => none }
def PeelGaussWrongFalsely : Prop := peelGaussRow.holds Try.pinned (OpenSpec.ofChange peelGaussWrong)

/-- 'mosaiclaw12.GaussSolves': WHATEVER THE INPUT: true; the input reads as it did. -/
def gaussSolvesSpec : ChangeSpec := { name := "gaussSolves", fn := fun _ => fun
  | [d1, d2, d3] => { results := [.lit (.bool true)], args := [d1, d2, d3] }
  | _ => none }
def gaussSolvesRow : OpenClaim := { program := "ytnchcapdfmccjaa", sum := "414f88b2d7e503dfb41ba0355970bc193762f35c74ce7687f948bca149359c7a", func := "mosaic/mosaiclaw12.GaussSolves", spec := "gaussSolves", inPlace := ["internal/abi.NoEscape", "internal/bytealg.MakeNoZero"], unfollowed := true, recurses := true, apart := false }
def GaussSolvesSaid : Prop := gaussSolvesRow.holds Try.pinned (OpenSpec.ofChange gaussSolvesSpec)

/-- ITS FALSE NEIGHBOUR: 'it returns false'. Refute it at one input. -/
def gaussSolvesWrong : ChangeSpec := { name := "gaussSolves", fn := fun _ => fun
  | [d1, d2, d3] => { results := [.lit (.bool false)], args := [d1, d2, d3] }
  | _ => none }
def GaussSolvesWrongFalsely : Prop := gaussSolvesRow.holds Try.pinned (OpenSpec.ofChange gaussSolvesWrong)

/-- 'mosaiclaw12.GaussTrue': WHATEVER THE INPUT: true; the input reads as it did. -/
def gaussTrueSpec : ChangeSpec := { name := "gaussTrue", fn := fun _ => fun
  | [d1, d2, d3] => { results := [.lit (.bool true)], args := [d1, d2, d3] }
  | _ => none }
def gaussTrueRow : OpenClaim := { program := "ytnchcapdfmccjaa", sum := "414f88b2d7e503dfb41ba0355970bc193762f35c74ce7687f948bca149359c7a", func := "mosaic/mosaiclaw12.GaussTrue", spec := "gaussTrue", inPlace := ["internal/abi.NoEscape", "internal/bytealg.MakeNoZero"], unfollowed := true, recurses := true, apart := false }
def GaussTrueSaid : Prop := gaussTrueRow.holds Try.pinned (OpenSpec.ofChange gaussTrueSpec)

/-- ITS FALSE NEIGHBOUR: 'it returns false'. Refute it at one input. -/
def gaussTrueWrong : ChangeSpec := { name := "gaussTrue", fn := fun _ => fun
  | [d1, d2, d3] => { results := [.lit (.bool false)], args := [d1, d2, d3] }
  | _ => none }
def GaussTrueWrongFalsely : Prop := gaussTrueRow.holds Try.pinned (OpenSpec.ofChange gaussTrueWrong)

/-- 'mosaiclaw26.InactTrue': WHATEVER THE INPUT: true; the input reads as it did. -/
def inactTrueSpec : ChangeSpec := { name := "inactTrue", fn := fun _ => fun
  | [d1, d2] => { results := [.lit (.bool true)], args := [d1, d2] }
  | _ => none }
def inactTrueRow : OpenClaim := { program := "ytnchcapdfmccjaa", sum := "414f88b2d7e503dfb41ba0355970bc193762f35c74ce7687f948bca149359c7a", func := "mosaic/mosaiclaw26.InactTrue", spec := "inactTrue", inPlace := ["internal/abi.NoEscape", "internal/bytealg.MakeNoZero"], unfollowed := true, recurses := true, apart := false }
def InactTrueSaid : Prop := inactTrueRow.holds Try.pinned (OpenSpec.ofChange inactTrueSpec)

/-- ITS FALSE NEIGHBOUR: 'it returns false'. Refute it at one input. -/
def inactTrueWrong : ChangeSpec := { name := "inactTrue", fn := fun _ => fun
  | [d1, d2] => { results := [.lit (.bool false)], args := [d1, d2] }
  | _ => none }
def InactTrueWrongFalsely : Prop := inactTrueRow.holds Try.pinned (OpenSpec.ofChange inactTrueWrong)

/-- 'mosaiclaw26.InactUnknowns': WHATEVER THE INPUT: true; the input reads as it did. -/
def inactUnknownsSpec : ChangeSpec := { name := "inactUnknowns", fn := fun _ => fun
  | [d1, d2] => { results := [.lit (.bool true)], args := [d1, d2] }
  | _ => none }
def inactUnknownsRow : OpenClaim := { program := "ytnchcapdfmccjaa", sum := "414f88b2d7e503dfb41ba0355970bc193762f35c74ce7687f948bca149359c7a", func := "mosaic/mosaiclaw26.InactUnknowns", spec := "inactUnknowns", inPlace := ["internal/abi.NoEscape", "internal/bytealg.MakeNoZero"], unfollowed := true, recurses := true, apart := false }
def InactUnknownsSaid : Prop := inactUnknownsRow.holds Try.pinned (OpenSpec.ofChange inactUnknownsSpec)

/-- ITS FALSE NEIGHBOUR: 'it returns false'. Refute it at one input. -/
def inactUnknownsWrong : ChangeSpec := { name := "inactUnknowns", fn := fun _ => fun
  | [d1, d2] => { results := [.lit (.bool false)], args := [d1, d2] }
  | _ => none }
def InactUnknownsWrongFalsely : Prop := inactUnknownsRow.holds Try.pinned (OpenSpec.ofChange inactUnknownsWrong)

/-- 'mosaiclaw26.InactPeels': WHATEVER THE INPUT: true; the input reads as it did. -/
def inactPeelsSpec : ChangeSpec := { name := "inactPeels", fn := fun _ => fun
  | [d1, d2] => { results := [.lit (.bool true)], args := [d1, d2] }
  | _ => none }
def inactPeelsRow : OpenClaim := { program := "ytnchcapdfmccjaa", sum := "414f88b2d7e503dfb41ba0355970bc193762f35c74ce7687f948bca149359c7a", func := "mosaic/mosaiclaw26.InactPeels", spec := "inactPeels", inPlace := ["internal/abi.NoEscape", "internal/bytealg.MakeNoZero"], unfollowed := true, recurses := true, apart := false }
def InactPeelsSaid : Prop := inactPeelsRow.holds Try.pinned (OpenSpec.ofChange inactPeelsSpec)

/-- ITS FALSE NEIGHBOUR: 'it returns false'. Refute it at one input. -/
def inactPeelsWrong : ChangeSpec := { name := "inactPeels", fn := fun _ => fun
  | [d1, d2] => { results := [.lit (.bool false)], args := [d1, d2] }
  | _ => none }
def InactPeelsWrongFalsely : Prop := inactPeelsRow.holds Try.pinned (OpenSpec.ofChange inactPeelsWrong)

/- THE SECOND FORM. 'bulk': how many values and letters a reading holds, each counted each time it is reached (what is shared counts as often as it is met; a slice's spare places count too). A statement '..UptoSaid' is the law's where the arguments, and the package variables that the reading takes, are together of bulk at most 1048576: NARROWER than '..Said'. Prove '..Said' where nothing that the law and all that it calls make is longer than what came in: it says more and counts as full. Else prove '..UptoSaid'. A law counts once. -/
mutual
def uptoBulk {H : Type} : DataW H → Nat
  | .lit (.string bytes) => bytes.length + 1
  | .lit _ => 1
  | .nil => 1
  | .ptr d => uptoBulk d + 1
  | .slice elems spare => uptoBulkAll elems + uptoBulkAll spare + 1
  | .agg parts => uptoBulkAll parts + 1
  | .iface _ d => uptoBulk d + 1
  | .map entries => uptoBulkEntries entries + 1
  | .held _ => 1
def uptoBulkAll {H : Type} : List (DataW H) → Nat
  | [] => 0
  | d :: r => uptoBulk d + uptoBulkAll r
def uptoBulkEntries {H : Type} : List (Lit × DataW H) → Nat
  | [] => 0
  | x :: r => uptoBulkEntry x + uptoBulkEntries r
def uptoBulkEntry {H : Type} : Lit × DataW H → Nat
  | (.string bytes, d) => bytes.length + uptoBulk d + 1
  | (_, d) => uptoBulk d + 1
 end
def uptoSmall : (H : Type) → List (DataW H) → Bool := fun _ ds => decide (uptoBulkAll ds ≤ 1048576)
def OpenSpec.upto (s : _root_.Go.ChangeSpec) : _root_.Go.OpenSpec := { _root_.Go.OpenSpec.ofChange s with cond := some uptoSmall }

/-- 'mosaiclaw13.PeelOrder', WHERE WHAT IT READS IS OF BULK AT MOST 1048576: true; the input reads as it did. -/
def peelOrderUptoRow : OpenClaim := { program := "ytnchcapdfmccjaa", sum := "414f88b2d7e503dfb41ba0355970bc193762f35c74ce7687f948bca149359c7a", func := "mosaic/mosaiclaw13.PeelOrder", spec := "peelOrder", unfollowed := true, recurses := true, apart := false, narrowed := true }
def PeelOrderUptoSaid : Prop := peelOrderUptoRow.holds Try.pinned (OpenSpec.upto peelOrderSpec)

/-- 'mosaiclaw13.PeelGrows', WHERE WHAT IT READS IS OF BULK AT MOST 1048576: true; the input reads as it did. -/
def peelGrowsUptoRow : OpenClaim := { program := "ytnchcapdfmccjaa", sum := "414f88b2d7e503dfb41ba0355970bc193762f35c74ce7687f948bca149359c7a", func := "mosaic/mosaiclaw13.PeelGrows", spec := "peelGrows", unfollowed := true, recurses := true, apart := false, narrowed := true }
def PeelGrowsUptoSaid : Prop := peelGrowsUptoRow.holds Try.pinned (OpenSpec.upto peelGrowsSpec)

/-- 'mosaiclaw13.PeelSteps', WHERE WHAT IT READS IS OF BULK AT MOST 1048576: true; the input reads as it did. -/
def peelStepsUptoRow : OpenClaim := { program := "ytnchcapdfmccjaa", sum := "414f88b2d7e503dfb41ba0355970bc193762f35c74ce7687f948bca149359c7a", func := "mosaic/mosaiclaw13.PeelSteps", spec := "peelSteps", unfollowed := true, recurses := true, apart := false, narrowed := true }
def PeelStepsUptoSaid : Prop := peelStepsUptoRow.holds Try.pinned (OpenSpec.upto peelStepsSpec)

/-- 'mosaiclaw12.GaussReduces', WHERE WHAT IT READS IS OF BULK AT MOST 1048576: true; the input reads as it did. -/
def gaussReducesUptoRow : OpenClaim := { program := "ytnchcapdfmccjaa", sum := "414f88b2d7e503dfb41ba0355970bc193762f35c74ce7687f948bca149359c7a", func := "mosaic/mosaiclaw12.GaussReduces", spec := "gaussReduces", unfollowed := true, recurses := true, apart := false, narrowed := true }
def GaussReducesUptoSaid : Prop := gaussReducesUptoRow.holds Try.pinned (OpenSpec.upto gaussReducesSpec)

/-- 'mosaiclaw12.GaussForm', WHERE WHAT IT READS IS OF BULK AT MOST 1048576: true; the input reads as it did. -/
def gaussFormUptoRow : OpenClaim := { program := "ytnchcapdfmccjaa", sum := "414f88b2d7e503dfb41ba0355970bc193762f35c74ce7687f948bca149359c7a", func := "mosaic/mosaiclaw12.GaussForm", spec := "gaussForm", unfollowed := true, recurses := true, apart := false, narrowed := true }
def GaussFormUptoSaid : Prop := gaussFormUptoRow.holds Try.pinned (OpenSpec.upto gaussFormSpec)

/-- 'mosaiclaw12.GaussOrder', WHERE WHAT IT READS IS OF BULK AT MOST 1048576: true; the input reads as it did. -/
def gaussOrderUptoRow : OpenClaim := { program := "ytnchcapdfmccjaa", sum := "414f88b2d7e503dfb41ba0355970bc193762f35c74ce7687f948bca149359c7a", func := "mosaic/mosaiclaw12.GaussOrder", spec := "gaussOrder", unfollowed := true, recurses := true, apart := false, narrowed := true }
def GaussOrderUptoSaid : Prop := gaussOrderUptoRow.holds Try.pinned (OpenSpec.upto gaussOrderSpec)

/-- 'mosaiclaw12.GaussMore', WHERE WHAT IT READS IS OF BULK AT MOST 1048576: true; the input reads as it did. -/
def gaussMoreUptoRow : OpenClaim := { program := "ytnchcapdfmccjaa", sum := "414f88b2d7e503dfb41ba0355970bc193762f35c74ce7687f948bca149359c7a", func := "mosaic/mosaiclaw12.GaussMore", spec := "gaussMore", unfollowed := true, recurses := true, apart := false, narrowed := true }
def GaussMoreUptoSaid : Prop := gaussMoreUptoRow.holds Try.pinned (OpenSpec.upto gaussMoreSpec)

/-- 'mosaiclaw13.PeelNeeds', WHERE WHAT IT READS IS OF BULK AT MOST 1048576: true; the input reads as it did. -/
def peelNeedsUptoRow : OpenClaim := { program := "ytnchcapdfmccjaa", sum := "414f88b2d7e503dfb41ba0355970bc193762f35c74ce7687f948bca149359c7a", func := "mosaic/mosaiclaw13.PeelNeeds", spec := "peelNeeds", unfollowed := true, recurses := true, apart := false, narrowed := true }
def PeelNeedsUptoSaid : Prop := peelNeedsUptoRow.holds Try.pinned (OpenSpec.upto peelNeedsSpec)

/-- 'mosaiclaw13.PeelGauss', WHERE WHAT IT READS IS OF BULK AT MOST 1048576: true; the input reads as it did. -/
def peelGaussUptoRow : OpenClaim := { program := "ytnchcapdfmccjaa", sum := "414f88b2d7e503dfb41ba0355970bc193762f35c74ce7687f948bca149359c7a", func := "mosaic/mosaiclaw13.PeelGauss", spec := "peelGauss", unfollowed := true, recurses := true, apart := false, narrowed := true }
def PeelGaussUptoSaid : Prop := peelGaussUptoRow.holds Try.pinned (OpenSpec.upto peelGaussSpec)

/-- 'mosaiclaw12.GaussSolves', WHERE WHAT IT READS IS OF BULK AT MOST 1048576: true; the input reads as it did. -/
def gaussSolvesUptoRow : OpenClaim := { program := "ytnchcapdfmccjaa", sum := "414f88b2d7e503dfb41ba0355970bc193762f35c74ce7687f948bca149359c7a", func := "mosaic/mosaiclaw12.GaussSolves", spec := "gaussSolves", inPlace := ["internal/abi.NoEscape", "internal/bytealg.MakeNoZero"], unfollowed := true, recurses := true, apart := false, narrowed := true }
def GaussSolvesUptoSaid : Prop := gaussSolvesUptoRow.holds Try.pinned (OpenSpec.upto gaussSolvesSpec)

/-- 'mosaiclaw12.GaussTrue', WHERE WHAT IT READS IS OF BULK AT MOST 1048576: true; the input reads as it did. -/
def gaussTrueUptoRow : OpenClaim := { program := "ytnchcapdfmccjaa", sum := "414f88b2d7e503dfb41ba0355970bc193762f35c74ce7687f948bca149359c7a", func := "mosaic/mosaiclaw12.GaussTrue", spec := "gaussTrue", inPlace := ["internal/abi.NoEscape", "internal/bytealg.MakeNoZero"], unfollowed := true, recurses := true, apart := false, narrowed := true }
def GaussTrueUptoSaid : Prop := gaussTrueUptoRow.holds Try.pinned (OpenSpec.upto gaussTrueSpec)

/-- 'mosaiclaw26.InactTrue', WHERE WHAT IT READS IS OF BULK AT MOST 1048576: true; the input reads as it did. -/
def inactTrueUptoRow : OpenClaim := { program := "ytnchcapdfmccjaa", sum := "414f88b2d7e503dfb41ba0355970bc193762f35c74ce7687f948bca149359c7a", func := "mosaic/mosaiclaw26.InactTrue", spec := "inactTrue", inPlace := ["internal/abi.NoEscape", "internal/bytealg.MakeNoZero"], unfollowed := true, recurses := true, apart := false, narrowed := true }
def InactTrueUptoSaid : Prop := inactTrueUptoRow.holds Try.pinned (OpenSpec.upto inactTrueSpec)

/-- 'mosaiclaw26.InactUnknowns', WHERE WHAT IT READS IS OF BULK AT MOST 1048576: true; the input reads as it did. -/
def inactUnknownsUptoRow : OpenClaim := { program := "ytnchcapdfmccjaa", sum := "414f88b2d7e503dfb41ba0355970bc193762f35c74ce7687f948bca149359c7a", func := "mosaic/mosaiclaw26.InactUnknowns", spec := "inactUnknowns", inPlace := ["internal/abi.NoEscape", "internal/bytealg.MakeNoZero"], unfollowed := true, recurses := true, apart := false, narrowed := true }
def InactUnknownsUptoSaid : Prop := inactUnknownsUptoRow.holds Try.pinned (OpenSpec.upto inactUnknownsSpec)

/-- 'mosaiclaw26.InactPeels', WHERE WHAT IT READS IS OF BULK AT MOST 1048576: true; the input reads as it did. -/
def inactPeelsUptoRow : OpenClaim := { program := "ytnchcapdfmccjaa", sum := "414f88b2d7e503dfb41ba0355970bc193762f35c74ce7687f948bca149359c7a", func := "mosaic/mosaiclaw26.InactPeels", spec := "inactPeels", inPlace := ["internal/abi.NoEscape", "internal/bytealg.MakeNoZero"], unfollowed := true, recurses := true, apart := false, narrowed := true }
def InactPeelsUptoSaid : Prop := inactPeelsUptoRow.holds Try.pinned (OpenSpec.upto inactPeelsSpec)

end Rows
end Go.Proofs.Ytnchcapdfmccjaa
