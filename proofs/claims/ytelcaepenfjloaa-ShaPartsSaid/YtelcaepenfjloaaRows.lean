/-
  No cell of these rows narrows 'for every input' (looked for: loops, veiled, ifaces, maps, wideKeys, modest, calm, conditions, laid).
  DERIVED. THE GIVEN ROWS OF THIS SEAT. 22 by the template 'for every input the law returns true; each argument reads behind the call as it read before'; 0 by the template 'total and deterministic' (their statements: YtelcaepenfjloaaTotals.lean).
  GIVEN WITH THE SEED: the statements are not yours to turn. If you find one false, say at which input.
  Laid BY PROGRAM, IN A SANDBOX (cutbox-rows.mjs): the forced cells as the released guide's own fill.sh prints them over the translation 6298d5955f41eaad… (all of the seat's roots in one cut). By AI agents, Wed Nov 11 2026. No macro, syntax, notation, axiom, sorry.
-/
import Derived.Test.YtelcaepenfjloaaChecked
import GoSem.Claim
import GoSem.ClaimJoined
import GoSem.ClaimMapViews
import Derived.JoinedTies
import Derived.KernelRfl
namespace Go.Proofs.Ytelcaepenfjloaa
/- THE CELL 'sum', in the pinned program and in every row, IS THE sha256 OF THE DUMP (.gsa) THAT YtelcaepenfjloaaProg.lean LOADS. Nothing in Lean hashes anything: it is a label: what it is worth is what the hold of that sum in a sandbox is worth. -/
noncomputable def Try.pinned : Pinned := { name := "ytelcaepenfjloaa", sum := "6298d5955f41eaadb0b22ad25efae29eb97f1bc545454a910c04385f4e1723da", checked := Try.checked }
namespace Rows
def none {H : Type} : Left H := { results := [], args := [] }

/-- 'mosaiclaw01.ShaSums': WHATEVER THE INPUT: true; the input reads as it did. -/
def shaSumsSpec : ChangeSpec := { name := "shaSums", fn := fun _ => fun
  | [d] => { results := [.lit (.bool true)], args := [d] }
  | _ => none }
def shaSumsRow : OpenClaim := { program := "ytelcaepenfjloaa", sum := "6298d5955f41eaadb0b22ad25efae29eb97f1bc545454a910c04385f4e1723da", func := "mosaic/mosaiclaw01.ShaSums", spec := "shaSums", inPlace := ["internal/abi.NoEscape"], apart := false }
def ShaSumsSaid : Prop := shaSumsRow.holds Try.pinned (OpenSpec.ofChange shaSumsSpec)

/-- ITS FALSE NEIGHBOUR: 'it returns false'. Refute it at one input. -/
def shaSumsWrong : ChangeSpec := { name := "shaSums", fn := fun _ => fun
  | [d] => { results := [.lit (.bool false)], args := [d] }
  | _ => none }
def ShaSumsWrongFalsely : Prop := shaSumsRow.holds Try.pinned (OpenSpec.ofChange shaSumsWrong)

/-- 'mosaiclaw01.ShaPads': WHATEVER THE INPUT: true; the input reads as it did. -/
def shaPadsSpec : ChangeSpec := { name := "shaPads", fn := fun _ => fun
  | [d] => { results := [.lit (.bool true)], args := [d] }
  | _ => none }
def shaPadsRow : OpenClaim := { program := "ytelcaepenfjloaa", sum := "6298d5955f41eaadb0b22ad25efae29eb97f1bc545454a910c04385f4e1723da", func := "mosaic/mosaiclaw01.ShaPads", spec := "shaPads", inPlace := ["internal/abi.NoEscape"], apart := false }
def ShaPadsSaid : Prop := shaPadsRow.holds Try.pinned (OpenSpec.ofChange shaPadsSpec)

/-- ITS FALSE NEIGHBOUR: 'it returns false'. Refute it at one input. -/
def shaPadsWrong : ChangeSpec := { name := "shaPads", fn := fun _ => fun
  | [d] => { results := [.lit (.bool false)], args := [d] }
  | _ => none }
def ShaPadsWrongFalsely : Prop := shaPadsRow.holds Try.pinned (OpenSpec.ofChange shaPadsWrong)

/-- 'mosaiclaw01.ShaMixes': WHATEVER THE INPUT: true; the input reads as it did. -/
def shaMixesSpec : ChangeSpec := { name := "shaMixes", fn := fun _ => fun
  | [d1, d2] => { results := [.lit (.bool true)], args := [d1, d2] }
  | _ => none }
def shaMixesRow : OpenClaim := { program := "ytelcaepenfjloaa", sum := "6298d5955f41eaadb0b22ad25efae29eb97f1bc545454a910c04385f4e1723da", func := "mosaic/mosaiclaw01.ShaMixes", spec := "shaMixes", inPlace := ["internal/abi.NoEscape"], apart := false }
def ShaMixesSaid : Prop := shaMixesRow.holds Try.pinned (OpenSpec.ofChange shaMixesSpec)

/-- ITS FALSE NEIGHBOUR: 'it returns false'. Refute it at one input. -/
def shaMixesWrong : ChangeSpec := { name := "shaMixes", fn := fun _ => fun
  | [d1, d2] => { results := [.lit (.bool false)], args := [d1, d2] }
  | _ => none }
def ShaMixesWrongFalsely : Prop := shaMixesRow.holds Try.pinned (OpenSpec.ofChange shaMixesWrong)

/-- 'mosaiclaw01.ShaParts': WHATEVER THE INPUT: true; the input reads as it did. -/
def shaPartsSpec : ChangeSpec := { name := "shaParts", fn := fun _ => fun
  | [d] => { results := [.lit (.bool true)], args := [d] }
  | _ => none }
def shaPartsRow : OpenClaim := { program := "ytelcaepenfjloaa", sum := "6298d5955f41eaadb0b22ad25efae29eb97f1bc545454a910c04385f4e1723da", func := "mosaic/mosaiclaw01.ShaParts", spec := "shaParts", inPlace := ["internal/abi.NoEscape"], apart := false }
def ShaPartsSaid : Prop := shaPartsRow.holds Try.pinned (OpenSpec.ofChange shaPartsSpec)

/-- ITS FALSE NEIGHBOUR: 'it returns false'. Refute it at one input. -/
def shaPartsWrong : ChangeSpec := { name := "shaParts", fn := fun _ => fun
  | [d] => { results := [.lit (.bool false)], args := [d] }
  | _ => none }
def ShaPartsWrongFalsely : Prop := shaPartsRow.holds Try.pinned (OpenSpec.ofChange shaPartsWrong)

/-- 'mosaiclaw01.ShaBlocks': WHATEVER THE INPUT: true; the input reads as it did. -/
def shaBlocksSpec : ChangeSpec := { name := "shaBlocks", fn := fun _ => fun
  | [d] => { results := [.lit (.bool true)], args := [d] }
  | _ => none }
def shaBlocksRow : OpenClaim := { program := "ytelcaepenfjloaa", sum := "6298d5955f41eaadb0b22ad25efae29eb97f1bc545454a910c04385f4e1723da", func := "mosaic/mosaiclaw01.ShaBlocks", spec := "shaBlocks", inPlace := ["internal/abi.NoEscape"], apart := false }
def ShaBlocksSaid : Prop := shaBlocksRow.holds Try.pinned (OpenSpec.ofChange shaBlocksSpec)

/-- ITS FALSE NEIGHBOUR: 'it returns false'. Refute it at one input. -/
def shaBlocksWrong : ChangeSpec := { name := "shaBlocks", fn := fun _ => fun
  | [d] => { results := [.lit (.bool false)], args := [d] }
  | _ => none }
def ShaBlocksWrongFalsely : Prop := shaBlocksRow.holds Try.pinned (OpenSpec.ofChange shaBlocksWrong)

/-- 'mosaiclaw01.ShaNil': WHATEVER THE INPUT: true; the input reads as it did. -/
def shaNilSpec : ChangeSpec := { name := "shaNil", fn := fun _ => fun
  | [d] => { results := [.lit (.bool true)], args := [d] }
  | _ => none }
def shaNilRow : OpenClaim := { program := "ytelcaepenfjloaa", sum := "6298d5955f41eaadb0b22ad25efae29eb97f1bc545454a910c04385f4e1723da", func := "mosaic/mosaiclaw01.ShaNil", spec := "shaNil", inPlace := ["internal/abi.NoEscape"], apart := false }
def ShaNilSaid : Prop := shaNilRow.holds Try.pinned (OpenSpec.ofChange shaNilSpec)

/-- ITS FALSE NEIGHBOUR: 'it returns false'. Refute it at one input. -/
def shaNilWrong : ChangeSpec := { name := "shaNil", fn := fun _ => fun
  | [d] => { results := [.lit (.bool false)], args := [d] }
  | _ => none }
def ShaNilWrongFalsely : Prop := shaNilRow.holds Try.pinned (OpenSpec.ofChange shaNilWrong)

/-- 'mosaiclaw01.ShaHexes': WHATEVER THE INPUT: true; the input reads as it did. -/
def shaHexesSpec : ChangeSpec := { name := "shaHexes", fn := fun _ => fun
  | [d] => { results := [.lit (.bool true)], args := [d] }
  | _ => none }
def shaHexesRow : OpenClaim := { program := "ytelcaepenfjloaa", sum := "6298d5955f41eaadb0b22ad25efae29eb97f1bc545454a910c04385f4e1723da", func := "mosaic/mosaiclaw01.ShaHexes", spec := "shaHexes", inPlace := ["internal/abi.NoEscape"], apart := false }
def ShaHexesSaid : Prop := shaHexesRow.holds Try.pinned (OpenSpec.ofChange shaHexesSpec)

/-- ITS FALSE NEIGHBOUR: 'it returns false'. Refute it at one input. -/
def shaHexesWrong : ChangeSpec := { name := "shaHexes", fn := fun _ => fun
  | [d] => { results := [.lit (.bool false)], args := [d] }
  | _ => none }
def ShaHexesWrongFalsely : Prop := shaHexesRow.holds Try.pinned (OpenSpec.ofChange shaHexesWrong)

/-- 'mosaiclaw03.MerkleRoots': WHATEVER THE INPUT: true; the input reads as it did. -/
def merkleRootsSpec : ChangeSpec := { name := "merkleRoots", fn := fun _ => fun
  | [d] => { results := [.lit (.bool true)], args := [d] }
  | _ => none }
def merkleRootsRow : OpenClaim := { program := "ytelcaepenfjloaa", sum := "6298d5955f41eaadb0b22ad25efae29eb97f1bc545454a910c04385f4e1723da", func := "mosaic/mosaiclaw03.MerkleRoots", spec := "merkleRoots", unfollowed := true, recurses := true, apart := false }
def MerkleRootsSaid : Prop := merkleRootsRow.holds Try.pinned (OpenSpec.ofChange merkleRootsSpec)

/-- ITS FALSE NEIGHBOUR: 'it returns false'. Refute it at one input. -/
def merkleRootsWrong : ChangeSpec := { name := "merkleRoots", fn := fun _ => fun
  | [d] => { results := [.lit (.bool false)], args := [d] }
  | _ => none }
def MerkleRootsWrongFalsely : Prop := merkleRootsRow.holds Try.pinned (OpenSpec.ofChange merkleRootsWrong)

/-- 'mosaiclaw03.MerklePaths': WHATEVER THE INPUT: true; the input reads as it did. -/
def merklePathsSpec : ChangeSpec := { name := "merklePaths", fn := fun _ => fun
  | [d1, d2] => { results := [.lit (.bool true)], args := [d1, d2] }
  | _ => none }
def merklePathsRow : OpenClaim := { program := "ytelcaepenfjloaa", sum := "6298d5955f41eaadb0b22ad25efae29eb97f1bc545454a910c04385f4e1723da", func := "mosaic/mosaiclaw03.MerklePaths", spec := "merklePaths", unfollowed := true, recurses := true, apart := false }
def MerklePathsSaid : Prop := merklePathsRow.holds Try.pinned (OpenSpec.ofChange merklePathsSpec)

/-- ITS FALSE NEIGHBOUR: 'it returns false'. Refute it at one input. -/
def merklePathsWrong : ChangeSpec := { name := "merklePaths", fn := fun _ => fun
  | [d1, d2] => { results := [.lit (.bool false)], args := [d1, d2] }
  | _ => none }
def MerklePathsWrongFalsely : Prop := merklePathsRow.holds Try.pinned (OpenSpec.ofChange merklePathsWrong)

/-- 'mosaiclaw03.MerkleDepths': WHATEVER THE INPUT: true; the input reads as it did. -/
def merkleDepthsSpec : ChangeSpec := { name := "merkleDepths", fn := fun _ => fun
  | [d1, d2] => { results := [.lit (.bool true)], args := [d1, d2] }
  | _ => none }
def merkleDepthsRow : OpenClaim := { program := "ytelcaepenfjloaa", sum := "6298d5955f41eaadb0b22ad25efae29eb97f1bc545454a910c04385f4e1723da", func := "mosaic/mosaiclaw03.MerkleDepths", spec := "merkleDepths", unfollowed := true, recurses := true, apart := false }
def MerkleDepthsSaid : Prop := merkleDepthsRow.holds Try.pinned (OpenSpec.ofChange merkleDepthsSpec)

/-- ITS FALSE NEIGHBOUR: 'it returns false'. Refute it at one input. -/
def merkleDepthsWrong : ChangeSpec := { name := "merkleDepths", fn := fun _ => fun
  | [d1, d2] => { results := [.lit (.bool false)], args := [d1, d2] }
  | _ => none }
def MerkleDepthsWrongFalsely : Prop := merkleDepthsRow.holds Try.pinned (OpenSpec.ofChange merkleDepthsWrong)

/-- 'mosaiclaw03.MerkleWitness': WHATEVER THE INPUT: true; the input reads as it did. -/
def merkleWitnessSpec : ChangeSpec := { name := "merkleWitness", fn := fun _ => fun
  | [d] => { results := [.lit (.bool true)], args := [d] }
  | _ => none }
def merkleWitnessRow : OpenClaim := { program := "ytelcaepenfjloaa", sum := "6298d5955f41eaadb0b22ad25efae29eb97f1bc545454a910c04385f4e1723da", func := "mosaic/mosaiclaw03.MerkleWitness", spec := "merkleWitness", unfollowed := true, recurses := true, apart := false }
def MerkleWitnessSaid : Prop := merkleWitnessRow.holds Try.pinned (OpenSpec.ofChange merkleWitnessSpec)

/-- ITS FALSE NEIGHBOUR: 'it returns false'. Refute it at one input. -/
def merkleWitnessWrong : ChangeSpec := { name := "merkleWitness", fn := fun _ => fun
  | [d] => { results := [.lit (.bool false)], args := [d] }
  | _ => none }
def MerkleWitnessWrongFalsely : Prop := merkleWitnessRow.holds Try.pinned (OpenSpec.ofChange merkleWitnessWrong)

/-- 'mosaiclaw04.PrngChooses': WHATEVER THE INPUT: true; the input reads as it did. -/
def prngChoosesSpec : ChangeSpec := { name := "prngChooses", fn := fun _ => fun
  | [d1, d2] => { results := [.lit (.bool true)], args := [d1, d2] }
  | _ => none }
def prngChoosesRow : OpenClaim := { program := "ytelcaepenfjloaa", sum := "6298d5955f41eaadb0b22ad25efae29eb97f1bc545454a910c04385f4e1723da", func := "mosaic/mosaiclaw04.PrngChooses", spec := "prngChooses", apart := false }
def PrngChoosesSaid : Prop := prngChoosesRow.holds Try.pinned (OpenSpec.ofChange prngChoosesSpec)

/-- ITS FALSE NEIGHBOUR: 'it returns false'. Refute it at one input. -/
def prngChoosesWrong : ChangeSpec := { name := "prngChooses", fn := fun _ => fun
  | [d1, d2] => { results := [.lit (.bool false)], args := [d1, d2] }
  | _ => none }
def PrngChoosesWrongFalsely : Prop := prngChoosesRow.holds Try.pinned (OpenSpec.ofChange prngChoosesWrong)

/-- 'mosaiclaw04.PrngPicks': WHATEVER THE INPUT: true; the input reads as it did. -/
def prngPicksSpec : ChangeSpec := { name := "prngPicks", fn := fun _ => fun
  | [d1, d2, d3] => { results := [.lit (.bool true)], args := [d1, d2, d3] }
  | _ => none }
def prngPicksRow : OpenClaim := { program := "ytelcaepenfjloaa", sum := "6298d5955f41eaadb0b22ad25efae29eb97f1bc545454a910c04385f4e1723da", func := "mosaic/mosaiclaw04.PrngPicks", spec := "prngPicks", apart := false }
def PrngPicksSaid : Prop := prngPicksRow.holds Try.pinned (OpenSpec.ofChange prngPicksSpec)

/-- ITS FALSE NEIGHBOUR: 'it returns false'. Refute it at one input. -/
def prngPicksWrong : ChangeSpec := { name := "prngPicks", fn := fun _ => fun
  | [d1, d2, d3] => { results := [.lit (.bool false)], args := [d1, d2, d3] }
  | _ => none }
def PrngPicksWrongFalsely : Prop := prngPicksRow.holds Try.pinned (OpenSpec.ofChange prngPicksWrong)

/-- 'mosaiclaw04.PrngBlocks': WHATEVER THE INPUT: true; the input reads as it did. -/
def prngBlocksSpec : ChangeSpec := { name := "prngBlocks", fn := fun _ => fun
  | [d1, d2, d3] => { results := [.lit (.bool true)], args := [d1, d2, d3] }
  | _ => none }
def prngBlocksRow : OpenClaim := { program := "ytelcaepenfjloaa", sum := "6298d5955f41eaadb0b22ad25efae29eb97f1bc545454a910c04385f4e1723da", func := "mosaic/mosaiclaw04.PrngBlocks", spec := "prngBlocks", apart := false }
def PrngBlocksSaid : Prop := prngBlocksRow.holds Try.pinned (OpenSpec.ofChange prngBlocksSpec)

/-- ITS FALSE NEIGHBOUR: 'it returns false'. Refute it at one input. -/
def prngBlocksWrong : ChangeSpec := { name := "prngBlocks", fn := fun _ => fun
  | [d1, d2, d3] => { results := [.lit (.bool false)], args := [d1, d2, d3] }
  | _ => none }
def PrngBlocksWrongFalsely : Prop := prngBlocksRow.holds Try.pinned (OpenSpec.ofChange prngBlocksWrong)

/-- 'mosaiclaw04.PrngDraws': WHATEVER THE INPUT: true; the input reads as it did. -/
def prngDrawsSpec : ChangeSpec := { name := "prngDraws", fn := fun _ => fun
  | [d1, d2] => { results := [.lit (.bool true)], args := [d1, d2] }
  | _ => none }
def prngDrawsRow : OpenClaim := { program := "ytelcaepenfjloaa", sum := "6298d5955f41eaadb0b22ad25efae29eb97f1bc545454a910c04385f4e1723da", func := "mosaic/mosaiclaw04.PrngDraws", spec := "prngDraws", apart := false }
def PrngDrawsSaid : Prop := prngDrawsRow.holds Try.pinned (OpenSpec.ofChange prngDrawsSpec)

/-- ITS FALSE NEIGHBOUR: 'it returns false'. Refute it at one input. -/
def prngDrawsWrong : ChangeSpec := { name := "prngDraws", fn := fun _ => fun
  | [d1, d2] => { results := [.lit (.bool false)], args := [d1, d2] }
  | _ => none }
def PrngDrawsWrongFalsely : Prop := prngDrawsRow.holds Try.pinned (OpenSpec.ofChange prngDrawsWrong)

/-- 'mosaiclaw04.PrngBelow': WHATEVER THE INPUT: true; the input reads as it did. -/
def prngBelowSpec : ChangeSpec := { name := "prngBelow", fn := fun _ => fun
  | [d1, d2] => { results := [.lit (.bool true)], args := [d1, d2] }
  | _ => none }
def prngBelowRow : OpenClaim := { program := "ytelcaepenfjloaa", sum := "6298d5955f41eaadb0b22ad25efae29eb97f1bc545454a910c04385f4e1723da", func := "mosaic/mosaiclaw04.PrngBelow", spec := "prngBelow", apart := false }
def PrngBelowSaid : Prop := prngBelowRow.holds Try.pinned (OpenSpec.ofChange prngBelowSpec)

/-- ITS FALSE NEIGHBOUR: 'it returns false'. Refute it at one input. -/
def prngBelowWrong : ChangeSpec := { name := "prngBelow", fn := fun _ => fun
  | [d1, d2] => { results := [.lit (.bool false)], args := [d1, d2] }
  | _ => none }
def PrngBelowWrongFalsely : Prop := prngBelowRow.holds Try.pinned (OpenSpec.ofChange prngBelowWrong)

/-- 'mosaiclaw04.PrngNil': WHATEVER THE INPUT: true; the input reads as it did. -/
def prngNilSpec : ChangeSpec := { name := "prngNil", fn := fun _ => fun
  | [d1, d2] => { results := [.lit (.bool true)], args := [d1, d2] }
  | _ => none }
def prngNilRow : OpenClaim := { program := "ytelcaepenfjloaa", sum := "6298d5955f41eaadb0b22ad25efae29eb97f1bc545454a910c04385f4e1723da", func := "mosaic/mosaiclaw04.PrngNil", spec := "prngNil", apart := false }
def PrngNilSaid : Prop := prngNilRow.holds Try.pinned (OpenSpec.ofChange prngNilSpec)

/-- ITS FALSE NEIGHBOUR: 'it returns false'. Refute it at one input. -/
def prngNilWrong : ChangeSpec := { name := "prngNil", fn := fun _ => fun
  | [d1, d2] => { results := [.lit (.bool false)], args := [d1, d2] }
  | _ => none }
def PrngNilWrongFalsely : Prop := prngNilRow.holds Try.pinned (OpenSpec.ofChange prngNilWrong)

/-- 'mosaiclaw03.MerkleTexts': WHATEVER THE INPUT: true; the input reads as it did. -/
def merkleTextsSpec : ChangeSpec := { name := "merkleTexts", fn := fun _ => fun
  | [d] => { results := [.lit (.bool true)], args := [d] }
  | _ => none }
def merkleTextsRow : OpenClaim := { program := "ytelcaepenfjloaa", sum := "6298d5955f41eaadb0b22ad25efae29eb97f1bc545454a910c04385f4e1723da", func := "mosaic/mosaiclaw03.MerkleTexts", spec := "merkleTexts", unfollowed := true, recurses := true, apart := false }
def MerkleTextsSaid : Prop := merkleTextsRow.holds Try.pinned (OpenSpec.ofChange merkleTextsSpec)

/-- ITS FALSE NEIGHBOUR: 'it returns false'. Refute it at one input. -/
def merkleTextsWrong : ChangeSpec := { name := "merkleTexts", fn := fun _ => fun
  | [d] => { results := [.lit (.bool false)], args := [d] }
  | _ => none }
def MerkleTextsWrongFalsely : Prop := merkleTextsRow.holds Try.pinned (OpenSpec.ofChange merkleTextsWrong)

/-- 'mosaiclaw03.MerkleFolds': WHATEVER THE INPUT: true; the input reads as it did. -/
def merkleFoldsSpec : ChangeSpec := { name := "merkleFolds", fn := fun _ => fun
  | [d1, d2, d3] => { results := [.lit (.bool true)], args := [d1, d2, d3] }
  | _ => none }
def merkleFoldsRow : OpenClaim := { program := "ytelcaepenfjloaa", sum := "6298d5955f41eaadb0b22ad25efae29eb97f1bc545454a910c04385f4e1723da", func := "mosaic/mosaiclaw03.MerkleFolds", spec := "merkleFolds", unfollowed := true, recurses := true, apart := false }
def MerkleFoldsSaid : Prop := merkleFoldsRow.holds Try.pinned (OpenSpec.ofChange merkleFoldsSpec)

/-- ITS FALSE NEIGHBOUR: 'it returns false'. Refute it at one input. -/
def merkleFoldsWrong : ChangeSpec := { name := "merkleFolds", fn := fun _ => fun
  | [d1, d2, d3] => { results := [.lit (.bool false)], args := [d1, d2, d3] }
  | _ => none }
def MerkleFoldsWrongFalsely : Prop := merkleFoldsRow.holds Try.pinned (OpenSpec.ofChange merkleFoldsWrong)

/-- 'mosaiclaw03.MerkleProves': WHATEVER THE INPUT: true; the input reads as it did. -/
def merkleProvesSpec : ChangeSpec := { name := "merkleProves", fn := fun _ => fun
  | [d1, d2] => { results := [.lit (.bool true)], args := [d1, d2] }
  | _ => none }
def merkleProvesRow : OpenClaim := { program := "ytelcaepenfjloaa", sum := "6298d5955f41eaadb0b22ad25efae29eb97f1bc545454a910c04385f4e1723da", func := "mosaic/mosaiclaw03.MerkleProves", spec := "merkleProves", unfollowed := true, recurses := true, apart := false }
def MerkleProvesSaid : Prop := merkleProvesRow.holds Try.pinned (OpenSpec.ofChange merkleProvesSpec)

/-- ITS FALSE NEIGHBOUR: 'it returns false'. Refute it at one input. -/
def merkleProvesWrong : ChangeSpec := { name := "merkleProves", fn := fun _ => fun
  | [d1, d2] => { results := [.lit (.bool false)], args := [d1, d2] }
  | _ => none }
def MerkleProvesWrongFalsely : Prop := merkleProvesRow.holds Try.pinned (OpenSpec.ofChange merkleProvesWrong)

/-- 'mosaiclaw03.MerkleDigests': WHATEVER THE INPUT: true; the input reads as it did. -/
def merkleDigestsSpec : ChangeSpec := { name := "merkleDigests", fn := fun _ => fun
  | [d1, d2, d3] => { results := [.lit (.bool true)], args := [d1, d2, d3] }
  | _ => none }
def merkleDigestsRow : OpenClaim := { program := "ytelcaepenfjloaa", sum := "6298d5955f41eaadb0b22ad25efae29eb97f1bc545454a910c04385f4e1723da", func := "mosaic/mosaiclaw03.MerkleDigests", spec := "merkleDigests", unfollowed := true, recurses := true, apart := false }
def MerkleDigestsSaid : Prop := merkleDigestsRow.holds Try.pinned (OpenSpec.ofChange merkleDigestsSpec)

/-- ITS FALSE NEIGHBOUR: 'it returns false'. Refute it at one input. -/
def merkleDigestsWrong : ChangeSpec := { name := "merkleDigests", fn := fun _ => fun
  | [d1, d2, d3] => { results := [.lit (.bool false)], args := [d1, d2, d3] }
  | _ => none }
def MerkleDigestsWrongFalsely : Prop := merkleDigestsRow.holds Try.pinned (OpenSpec.ofChange merkleDigestsWrong)

/-- 'mosaiclaw03.MerkleBinds': WHATEVER THE INPUT: true; the input reads as it did. -/
def merkleBindsSpec : ChangeSpec := { name := "merkleBinds", fn := fun _ => fun
  | [d1, d2, d3] => { results := [.lit (.bool true)], args := [d1, d2, d3] }
  | _ => none }
def merkleBindsRow : OpenClaim := { program := "ytelcaepenfjloaa", sum := "6298d5955f41eaadb0b22ad25efae29eb97f1bc545454a910c04385f4e1723da", func := "mosaic/mosaiclaw03.MerkleBinds", spec := "merkleBinds", unfollowed := true, recurses := true, apart := false }
def MerkleBindsSaid : Prop := merkleBindsRow.holds Try.pinned (OpenSpec.ofChange merkleBindsSpec)

/-- ITS FALSE NEIGHBOUR: 'it returns false'. Refute it at one input. -/
def merkleBindsWrong : ChangeSpec := { name := "merkleBinds", fn := fun _ => fun
  | [d1, d2, d3] => { results := [.lit (.bool false)], args := [d1, d2, d3] }
  | _ => none }
def MerkleBindsWrongFalsely : Prop := merkleBindsRow.holds Try.pinned (OpenSpec.ofChange merkleBindsWrong)

/- THE SECOND FORM. 'bulk': how many values and letters a reading holds, each counted each time it is reached (what is shared counts as often as it is met; a slice's spare places count too). A statement '..UptoSaid' is the law's where the arguments, and the package variables that the reading takes, are together of bulk at most 1048576: NARROWER than '..Said'. Prove '..Said' where nothing that the law and all that it calls make is longer than what came in: it says more and counts as full. Else prove '..UptoSaid'. A law counts once. -/
mutual
def uptoBulk {H : Type} : DataW H → Nat
  | .lit (.string bytes) => bytes.length + 1
  | .lit _ => 1
  | .nil => 1
  | .ptr d => uptoBulk d + 1
  | .slice elems spare => uptoBulkAll elems + uptoBulkAll spare + 1
  | .agg parts => uptoBulkAll parts + 1
  | .iface _ d => uptoBulk d + 1
  | .map entries => uptoBulkEntries entries + 1
  | .held _ => 1
def uptoBulkAll {H : Type} : List (DataW H) → Nat
  | [] => 0
  | d :: r => uptoBulk d + uptoBulkAll r
def uptoBulkEntries {H : Type} : List (Lit × DataW H) → Nat
  | [] => 0
  | x :: r => uptoBulkEntry x + uptoBulkEntries r
def uptoBulkEntry {H : Type} : Lit × DataW H → Nat
  | (.string bytes, d) => bytes.length + uptoBulk d + 1
  | (_, d) => uptoBulk d + 1
 end
def uptoSmall : (H : Type) → List (DataW H) → Bool := fun _ ds => decide (uptoBulkAll ds ≤ 1048576)
def OpenSpec.upto (s : _root_.Go.ChangeSpec) : _root_.Go.OpenSpec := { _root_.Go.OpenSpec.ofChange s with cond := some uptoSmall }

/-- 'mosaiclaw01.ShaSums', WHERE WHAT IT READS IS OF BULK AT MOST 1048576: true; the input reads as it did. -/
def shaSumsUptoRow : OpenClaim := { program := "ytelcaepenfjloaa", sum := "6298d5955f41eaadb0b22ad25efae29eb97f1bc545454a910c04385f4e1723da", func := "mosaic/mosaiclaw01.ShaSums", spec := "shaSums", inPlace := ["internal/abi.NoEscape"], apart := false, narrowed := true }
def ShaSumsUptoSaid : Prop := shaSumsUptoRow.holds Try.pinned (OpenSpec.upto shaSumsSpec)

/-- 'mosaiclaw01.ShaPads', WHERE WHAT IT READS IS OF BULK AT MOST 1048576: true; the input reads as it did. -/
def shaPadsUptoRow : OpenClaim := { program := "ytelcaepenfjloaa", sum := "6298d5955f41eaadb0b22ad25efae29eb97f1bc545454a910c04385f4e1723da", func := "mosaic/mosaiclaw01.ShaPads", spec := "shaPads", inPlace := ["internal/abi.NoEscape"], apart := false, narrowed := true }
def ShaPadsUptoSaid : Prop := shaPadsUptoRow.holds Try.pinned (OpenSpec.upto shaPadsSpec)

/-- 'mosaiclaw01.ShaMixes', WHERE WHAT IT READS IS OF BULK AT MOST 1048576: true; the input reads as it did. -/
def shaMixesUptoRow : OpenClaim := { program := "ytelcaepenfjloaa", sum := "6298d5955f41eaadb0b22ad25efae29eb97f1bc545454a910c04385f4e1723da", func := "mosaic/mosaiclaw01.ShaMixes", spec := "shaMixes", inPlace := ["internal/abi.NoEscape"], apart := false, narrowed := true }
def ShaMixesUptoSaid : Prop := shaMixesUptoRow.holds Try.pinned (OpenSpec.upto shaMixesSpec)

/-- 'mosaiclaw01.ShaParts', WHERE WHAT IT READS IS OF BULK AT MOST 1048576: true; the input reads as it did. -/
def shaPartsUptoRow : OpenClaim := { program := "ytelcaepenfjloaa", sum := "6298d5955f41eaadb0b22ad25efae29eb97f1bc545454a910c04385f4e1723da", func := "mosaic/mosaiclaw01.ShaParts", spec := "shaParts", inPlace := ["internal/abi.NoEscape"], apart := false, narrowed := true }
def ShaPartsUptoSaid : Prop := shaPartsUptoRow.holds Try.pinned (OpenSpec.upto shaPartsSpec)

/-- 'mosaiclaw01.ShaBlocks', WHERE WHAT IT READS IS OF BULK AT MOST 1048576: true; the input reads as it did. -/
def shaBlocksUptoRow : OpenClaim := { program := "ytelcaepenfjloaa", sum := "6298d5955f41eaadb0b22ad25efae29eb97f1bc545454a910c04385f4e1723da", func := "mosaic/mosaiclaw01.ShaBlocks", spec := "shaBlocks", inPlace := ["internal/abi.NoEscape"], apart := false, narrowed := true }
def ShaBlocksUptoSaid : Prop := shaBlocksUptoRow.holds Try.pinned (OpenSpec.upto shaBlocksSpec)

/-- 'mosaiclaw01.ShaNil', WHERE WHAT IT READS IS OF BULK AT MOST 1048576: true; the input reads as it did. -/
def shaNilUptoRow : OpenClaim := { program := "ytelcaepenfjloaa", sum := "6298d5955f41eaadb0b22ad25efae29eb97f1bc545454a910c04385f4e1723da", func := "mosaic/mosaiclaw01.ShaNil", spec := "shaNil", inPlace := ["internal/abi.NoEscape"], apart := false, narrowed := true }
def ShaNilUptoSaid : Prop := shaNilUptoRow.holds Try.pinned (OpenSpec.upto shaNilSpec)

/-- 'mosaiclaw01.ShaHexes', WHERE WHAT IT READS IS OF BULK AT MOST 1048576: true; the input reads as it did. -/
def shaHexesUptoRow : OpenClaim := { program := "ytelcaepenfjloaa", sum := "6298d5955f41eaadb0b22ad25efae29eb97f1bc545454a910c04385f4e1723da", func := "mosaic/mosaiclaw01.ShaHexes", spec := "shaHexes", inPlace := ["internal/abi.NoEscape"], apart := false, narrowed := true }
def ShaHexesUptoSaid : Prop := shaHexesUptoRow.holds Try.pinned (OpenSpec.upto shaHexesSpec)

/-- 'mosaiclaw03.MerkleRoots', WHERE WHAT IT READS IS OF BULK AT MOST 1048576: true; the input reads as it did. -/
def merkleRootsUptoRow : OpenClaim := { program := "ytelcaepenfjloaa", sum := "6298d5955f41eaadb0b22ad25efae29eb97f1bc545454a910c04385f4e1723da", func := "mosaic/mosaiclaw03.MerkleRoots", spec := "merkleRoots", unfollowed := true, recurses := true, apart := false, narrowed := true }
def MerkleRootsUptoSaid : Prop := merkleRootsUptoRow.holds Try.pinned (OpenSpec.upto merkleRootsSpec)

/-- 'mosaiclaw03.MerklePaths', WHERE WHAT IT READS IS OF BULK AT MOST 1048576: true; the input reads as it did. -/
def merklePathsUptoRow : OpenClaim := { program := "ytelcaepenfjloaa", sum := "6298d5955f41eaadb0b22ad25efae29eb97f1bc545454a910c04385f4e1723da", func := "mosaic/mosaiclaw03.MerklePaths", spec := "merklePaths", unfollowed := true, recurses := true, apart := false, narrowed := true }
def MerklePathsUptoSaid : Prop := merklePathsUptoRow.holds Try.pinned (OpenSpec.upto merklePathsSpec)

/-- 'mosaiclaw03.MerkleDepths', WHERE WHAT IT READS IS OF BULK AT MOST 1048576: true; the input reads as it did. -/
def merkleDepthsUptoRow : OpenClaim := { program := "ytelcaepenfjloaa", sum := "6298d5955f41eaadb0b22ad25efae29eb97f1bc545454a910c04385f4e1723da", func := "mosaic/mosaiclaw03.MerkleDepths", spec := "merkleDepths", unfollowed := true, recurses := true, apart := false, narrowed := true }
def MerkleDepthsUptoSaid : Prop := merkleDepthsUptoRow.holds Try.pinned (OpenSpec.upto merkleDepthsSpec)

/-- 'mosaiclaw03.MerkleWitness', WHERE WHAT IT READS IS OF BULK AT MOST 1048576: true; the input reads as it did. -/
def merkleWitnessUptoRow : OpenClaim := { program := "ytelcaepenfjloaa", sum := "6298d5955f41eaadb0b22ad25efae29eb97f1bc545454a910c04385f4e1723da", func := "mosaic/mosaiclaw03.MerkleWitness", spec := "merkleWitness", unfollowed := true, recurses := true, apart := false, narrowed := true }
def MerkleWitnessUptoSaid : Prop := merkleWitnessUptoRow.holds Try.pinned (OpenSpec.upto merkleWitnessSpec)

/-- 'mosaiclaw04.PrngChooses', WHERE WHAT IT READS IS OF BULK AT MOST 1048576: true; the input reads as it did. -/
def prngChoosesUptoRow : OpenClaim := { program := "ytelcaepenfjloaa", sum := "6298d5955f41eaadb0b22ad25efae29eb97f1bc545454a910c04385f4e1723da", func := "mosaic/mosaiclaw04.PrngChooses", spec := "prngChooses", apart := false, narrowed := true }
def PrngChoosesUptoSaid : Prop := prngChoosesUptoRow.holds Try.pinned (OpenSpec.upto prngChoosesSpec)

/-- 'mosaiclaw04.PrngPicks', WHERE WHAT IT READS IS OF BULK AT MOST 1048576: true; the input reads as it did. -/
def prngPicksUptoRow : OpenClaim := { program := "ytelcaepenfjloaa", sum := "6298d5955f41eaadb0b22ad25efae29eb97f1bc545454a910c04385f4e1723da", func := "mosaic/mosaiclaw04.PrngPicks", spec := "prngPicks", apart := false, narrowed := true }
def PrngPicksUptoSaid : Prop := prngPicksUptoRow.holds Try.pinned (OpenSpec.upto prngPicksSpec)

/-- 'mosaiclaw04.PrngBlocks', WHERE WHAT IT READS IS OF BULK AT MOST 1048576: true; the input reads as it did. -/
def prngBlocksUptoRow : OpenClaim := { program := "ytelcaepenfjloaa", sum := "6298d5955f41eaadb0b22ad25efae29eb97f1bc545454a910c04385f4e1723da", func := "mosaic/mosaiclaw04.PrngBlocks", spec := "prngBlocks", apart := false, narrowed := true }
def PrngBlocksUptoSaid : Prop := prngBlocksUptoRow.holds Try.pinned (OpenSpec.upto prngBlocksSpec)

/-- 'mosaiclaw04.PrngDraws', WHERE WHAT IT READS IS OF BULK AT MOST 1048576: true; the input reads as it did. -/
def prngDrawsUptoRow : OpenClaim := { program := "ytelcaepenfjloaa", sum := "6298d5955f41eaadb0b22ad25efae29eb97f1bc545454a910c04385f4e1723da", func := "mosaic/mosaiclaw04.PrngDraws", spec := "prngDraws", apart := false, narrowed := true }
def PrngDrawsUptoSaid : Prop := prngDrawsUptoRow.holds Try.pinned (OpenSpec.upto prngDrawsSpec)

/-- 'mosaiclaw04.PrngBelow', WHERE WHAT IT READS IS OF BULK AT MOST 1048576: true; the input reads as it did. -/
def prngBelowUptoRow : OpenClaim := { program := "ytelcaepenfjloaa", sum := "6298d5955f41eaadb0b22ad25efae29eb97f1bc545454a910c04385f4e1723da", func := "mosaic/mosaiclaw04.PrngBelow", spec := "prngBelow", apart := false, narrowed := true }
def PrngBelowUptoSaid : Prop := prngBelowUptoRow.holds Try.pinned (OpenSpec.upto prngBelowSpec)

/-- 'mosaiclaw04.PrngNil', WHERE WHAT IT READS IS OF BULK AT MOST 1048576: true; the input reads as it did. -/
def prngNilUptoRow : OpenClaim := { program := "ytelcaepenfjloaa", sum := "6298d5955f41eaadb0b22ad25efae29eb97f1bc545454a910c04385f4e1723da", func := "mosaic/mosaiclaw04.PrngNil", spec := "prngNil", apart := false, narrowed := true }
def PrngNilUptoSaid : Prop := prngNilUptoRow.holds Try.pinned (OpenSpec.upto prngNilSpec)

/-- 'mosaiclaw03.MerkleTexts', WHERE WHAT IT READS IS OF BULK AT MOST 1048576: true; the input reads as it did. -/
def merkleTextsUptoRow : OpenClaim := { program := "ytelcaepenfjloaa", sum := "6298d5955f41eaadb0b22ad25efae29eb97f1bc545454a910c04385f4e1723da", func := "mosaic/mosaiclaw03.MerkleTexts", spec := "merkleTexts", unfollowed := true, recurses := true, apart := false, narrowed := true }
def MerkleTextsUptoSaid : Prop := merkleTextsUptoRow.holds Try.pinned (OpenSpec.upto merkleTextsSpec)

/-- 'mosaiclaw03.MerkleFolds', WHERE WHAT IT READS IS OF BULK AT MOST 1048576: true; the input reads as it did. -/
def merkleFoldsUptoRow : OpenClaim := { program := "ytelcaepenfjloaa", sum := "6298d5955f41eaadb0b22ad25efae29eb97f1bc545454a910c04385f4e1723da", func := "mosaic/mosaiclaw03.MerkleFolds", spec := "merkleFolds", unfollowed := true, recurses := true, apart := false, narrowed := true }
def MerkleFoldsUptoSaid : Prop := merkleFoldsUptoRow.holds Try.pinned (OpenSpec.upto merkleFoldsSpec)

/-- 'mosaiclaw03.MerkleProves', WHERE WHAT IT READS IS OF BULK AT MOST 1048576: true; the input reads as it did. -/
def merkleProvesUptoRow : OpenClaim := { program := "ytelcaepenfjloaa", sum := "6298d5955f41eaadb0b22ad25efae29eb97f1bc545454a910c04385f4e1723da", func := "mosaic/mosaiclaw03.MerkleProves", spec := "merkleProves", unfollowed := true, recurses := true, apart := false, narrowed := true }
def MerkleProvesUptoSaid : Prop := merkleProvesUptoRow.holds Try.pinned (OpenSpec.upto merkleProvesSpec)

/-- 'mosaiclaw03.MerkleDigests', WHERE WHAT IT READS IS OF BULK AT MOST 1048576: true; the input reads as it did. -/
def merkleDigestsUptoRow : OpenClaim := { program := "ytelcaepenfjloaa", sum := "6298d5955f41eaadb0b22ad25efae29eb97f1bc545454a910c04385f4e1723da", func := "mosaic/mosaiclaw03.MerkleDigests", spec := "merkleDigests", unfollowed := true, recurses := true, apart := false, narrowed := true }
def MerkleDigestsUptoSaid : Prop := merkleDigestsUptoRow.holds Try.pinned (OpenSpec.upto merkleDigestsSpec)

/-- 'mosaiclaw03.MerkleBinds', WHERE WHAT IT READS IS OF BULK AT MOST 1048576: true; the input reads as it did. -/
def merkleBindsUptoRow : OpenClaim := { program := "ytelcaepenfjloaa", sum := "6298d5955f41eaadb0b22ad25efae29eb97f1bc545454a910c04385f4e1723da", func := "mosaic/mosaiclaw03.MerkleBinds", spec := "merkleBinds", unfollowed := true, recurses := true, apart := false, narrowed := true }
def MerkleBindsUptoSaid : Prop := merkleBindsUptoRow.holds Try.pinned (OpenSpec.upto merkleBindsSpec)

end Rows
end Go.Proofs.Ytelcaepenfjloaa
