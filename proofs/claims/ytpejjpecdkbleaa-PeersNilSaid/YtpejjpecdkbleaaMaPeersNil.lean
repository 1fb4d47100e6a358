/- The law PeersNil, by hand. -/
-- MANUAL mosaic/mosaiclaw18.PeersNil making plain
import Derived.Test.YtpejjpecdkbleaaPrK
import Derived.Test.YtpejjpecdkbleaaMaPeers1
import Derived.Test.YtpejjpecdkbleaaMaPeers10
import Derived.Test.YtpejjpecdkbleaaMaPeers12
import Derived.Test.YtpejjpecdkbleaaMaPeers4
import Derived.Test.YtpejjpecdkbleaaMaPeersRates
import Derived.Test.YtpejjpecdkbleaaMaPeersRates
import Derived.IntWalk
import Derived.BigQuiet
import Derived.Deep.QuietTactic
import Derived.Deep.RegionLaw
import Derived.RegionTactic
import Derived.Outline
import Derived.Laws.CopyOwn
namespace Go.Proofs.Ytpejjpecdkbleaa.Print
open Go.RowKit Go.Proofs.YtpejjpecdkbleaaW.PrintWords Go.Proofs.YtpejjpecdkbleaaW.PrintLast Go.Proofs.YtpejjpecdkbleaaW.PrintMore
set_option linter.unusedVariables false
set_option linter.unusedSimpArgs false

/-- The block of an act. -/
structure ActAt (w W : World) (kind node num x y : Int) (s : ByteArray) (on : Bool) : Prop where
  blk : W.heap[w.heap.size]? = some (.cells #[.int .i64 kind, .int .i64 node, .int .i64 num, .int .i64 x, .int .i64 y, .string s, .bool on] 42 (0, 0))
  bel : Below w.heap.size w W
section
variable {w W W2 : World} {kind node num x y : Int} {s : ByteArray} {on : Bool}
theorem ActAt.below (h : ActAt w W kind node num x y s on) (hb : Below W.heap.size W W2) : ActAt w W2 kind node num x y s on := ⟨blk_below h.blk hb, below_step h.bel hb⟩
theorem ActAt.c0 (h : ActAt w W kind node num x y s on) : W.cell? ⟨w.heap.size, 0, none⟩ = some (.int .i64 kind) := blk_cell h.blk 0
theorem ActAt.c1 (h : ActAt w W kind node num x y s on) : W.cell? ⟨w.heap.size, 1, none⟩ = some (.int .i64 node) := blk_cell h.blk 1
theorem ActAt.c2 (h : ActAt w W kind node num x y s on) : W.cell? ⟨w.heap.size, 2, none⟩ = some (.int .i64 num) := blk_cell h.blk 2
theorem ActAt.c3 (h : ActAt w W kind node num x y s on) : W.cell? ⟨w.heap.size, 3, none⟩ = some (.int .i64 x) := blk_cell h.blk 3
theorem ActAt.c4 (h : ActAt w W kind node num x y s on) : W.cell? ⟨w.heap.size, 4, none⟩ = some (.int .i64 y) := blk_cell h.blk 4
theorem ActAt.c5 (h : ActAt w W kind node num x y s on) : W.cell? ⟨w.heap.size, 5, none⟩ = some (.string s) := blk_cell h.blk 5
theorem ActAt.c6 (h : ActAt w W kind node num x y s on) : W.cell? ⟨w.heap.size, 6, none⟩ = some (.bool on) := blk_cell h.blk 6
end
def mosaiclaw18_PeersNil.f (a0 a1 a2 a3 a4 : Int) (a5 : ByteArray) (a6 : Bool) : Option Bool := some true
set_option maxHeartbeats 4000000 in
set_option maxRecDepth 100000 in
theorem mosaiclaw18_PeersNil.calls (kind node num x y : Int) (s : ByteArray) (on : Bool) (r : Bool) (w : World) (h : mosaiclaw18_PeersNil.f kind node num x y s on = some r) :
    Calls Try.prog 7 #[.agg #[.int .i64 kind, .int .i64 node, .int .i64 num, .int .i64 x, .int .i64 y, .string s, .bool on]] w fun e w' => e = .returned (.bool r) ∧ Below w.heap.size w w' := by
  obtain rfl := Option.some.inj (show some true = some r from h)
  clear h
  have HX := Aside0.mk (show ActAt w (w.alloc (.cells #[.int .i64 kind, .int .i64 node, .int .i64 num, .int .i64 x, .int .i64 y, .string s, .bool on] 42)) kind node num x y s on from ⟨heap_alloc_new w _, below_alloc (Below.refl _ _) _⟩)
  by_cases hs : 100 < (s.size : Int)
  · go_enter Try.func7, Try.ntmps7
    go_wp2_with fail
    refine (awake18 _).mono ?_
    rintro e W2 ⟨rfl, hb⟩
    have HX2 := Aside0.mk (HX.out.below hb)
    clear hb HX
    go_wp2_with fail
    go_ret
    exact ⟨rfl, HX2.out.bel⟩
  · go_enter Try.func7, Try.ntmps7
    go_wp2_with fail
    refine (nil_Roll _).mono ?_
    rintro e W0 ⟨rfl, hb⟩
    have n0_ := Aside0.mk (HX.out.below hb)
    clear hb HX
    have HX := n0_
    clear n0_
    have c0 := HX.out.c0
    have c1 := HX.out.c1
    have c2 := HX.out.c2
    have c3 := HX.out.c3
    have c4 := HX.out.c4
    have c5 := HX.out.c5
    have c6 := HX.out.c6
    go_wp2_with fail
    refine (nil_Get node _).mono ?_
    rintro e W1 ⟨rfl, hb⟩
    have n0_ := Aside0.mk (HX.out.below hb)
    clear hb HX c0 c1 c2 c3 c4 c5 c6
    have HX := n0_
    clear n0_
    have c0 := HX.out.c0
    have c1 := HX.out.c1
    have c2 := HX.out.c2
    have c3 := HX.out.c3
    have c4 := HX.out.c4
    have c5 := HX.out.c5
    have c6 := HX.out.c6
    go_wp2_with (refine store_new rfl 33 (.tmp 4) (.tmp 19) rfl W1.heap.size (peerC z33).toArray rfl rfl 33 _ (heap_alloc_new W1 _) info33z rfl (peer_one _) ?_; intro W1s hW1s hb1s; have n0_ := Aside0.mk (HX.out.below (Below.trans (below_alloc (Below.refl _ _) _) hb1s)); clear hW1s hb1s HX c0 c1 c2 c3 c4 c5 c6; have HX := n0_; clear n0_; have c0 := HX.out.c0; have c1 := HX.out.c1; have c2 := HX.out.c2; have c3 := HX.out.c3; have c4 := HX.out.c4; have c5 := HX.out.c5; have c6 := HX.out.c6)
    refine (nil_Meet node x y num _).mono ?_
    rintro e W2 ⟨rfl, hb⟩
    have n0_ := Aside0.mk (HX.out.below hb)
    clear hb HX c0 c1 c2 c3 c4 c5 c6
    have HX := n0_
    clear n0_
    have c0 := HX.out.c0
    have c1 := HX.out.c1
    have c2 := HX.out.c2
    have c3 := HX.out.c3
    have c4 := HX.out.c4
    have c5 := HX.out.c5
    have c6 := HX.out.c6
    go_wp2_with fail
    refine (nil_Hear node num _).mono ?_
    rintro e W3 ⟨rfl, hb⟩
    have n0_ := Aside0.mk (HX.out.below hb)
    clear hb HX c0 c1 c2 c3 c4 c5 c6
    have HX := n0_
    clear n0_
    have c0 := HX.out.c0
    have c1 := HX.out.c1
    have c2 := HX.out.c2
    have c3 := HX.out.c3
    have c4 := HX.out.c4
    have c5 := HX.out.c5
    have c6 := HX.out.c6
    go_wp2_with fail
    refine (nil_Leave node _).mono ?_
    rintro e W4 ⟨rfl, hb⟩
    have n0_ := Aside0.mk (HX.out.below hb)
    clear hb HX c0 c1 c2 c3 c4 c5 c6
    have HX := n0_
    clear n0_
    have c0 := HX.out.c0
    have c1 := HX.out.c1
    have c2 := HX.out.c2
    have c3 := HX.out.c3
    have c4 := HX.out.c4
    have c5 := HX.out.c5
    have c6 := HX.out.c6
    go_wp2_with fail
    refine (nil_Ban node _).mono ?_
    rintro e W5 ⟨rfl, hb⟩
    have n0_ := Aside0.mk (HX.out.below hb)
    clear hb HX c0 c1 c2 c3 c4 c5 c6
    have HX := n0_
    clear n0_
    have c0 := HX.out.c0
    have c1 := HX.out.c1
    have c2 := HX.out.c2
    have c3 := HX.out.c3
    have c4 := HX.out.c4
    have c5 := HX.out.c5
    have c6 := HX.out.c6
    go_wp2_with fail
    refine (nil_SetHave node s _).mono ?_
    rintro e W6 ⟨rfl, hb⟩
    have n0_ := Aside0.mk (HX.out.below hb)
    clear hb HX c0 c1 c2 c3 c4 c5 c6
    have HX := n0_
    clear n0_
    have c0 := HX.out.c0
    have c1 := HX.out.c1
    have c2 := HX.out.c2
    have c3 := HX.out.c3
    have c4 := HX.out.c4
    have c5 := HX.out.c5
    have c6 := HX.out.c6
    go_wp2_with fail
    refine (nil_SetWants node on _).mono ?_
    rintro e W7 ⟨rfl, hb⟩
    have n0_ := Aside0.mk (HX.out.below hb)
    clear hb HX c0 c1 c2 c3 c4 c5 c6
    have HX := n0_
    clear n0_
    have c0 := HX.out.c0
    have c1 := HX.out.c1
    have c2 := HX.out.c2
    have c3 := HX.out.c3
    have c4 := HX.out.c4
    have c5 := HX.out.c5
    have c6 := HX.out.c6
    go_wp2_with fail
    refine (nil_SetOpen node on _).mono ?_
    rintro e W8 ⟨rfl, hb⟩
    have n0_ := Aside0.mk (HX.out.below hb)
    clear hb HX c0 c1 c2 c3 c4 c5 c6
    have HX := n0_
    clear n0_
    have c0 := HX.out.c0
    have c1 := HX.out.c1
    have c2 := HX.out.c2
    have c3 := HX.out.c3
    have c4 := HX.out.c4
    have c5 := HX.out.c5
    have c6 := HX.out.c6
    go_wp2_with fail
    refine (nil_SetOpens node on _).mono ?_
    rintro e W9 ⟨rfl, hb⟩
    have n0_ := Aside0.mk (HX.out.below hb)
    clear hb HX c0 c1 c2 c3 c4 c5 c6
    have HX := n0_
    clear n0_
    have c0 := HX.out.c0
    have c1 := HX.out.c1
    have c2 := HX.out.c2
    have c3 := HX.out.c3
    have c4 := HX.out.c4
    have c5 := HX.out.c5
    have c6 := HX.out.c6
    go_wp2_with fail
    refine (nil_Count node num _).mono ?_
    rintro e W10 ⟨rfl, hb⟩
    have n0_ := Aside0.mk (HX.out.below hb)
    clear hb HX c0 c1 c2 c3 c4 c5 c6
    have HX := n0_
    clear n0_
    have c0 := HX.out.c0
    have c1 := HX.out.c1
    have c2 := HX.out.c2
    have c3 := HX.out.c3
    have c4 := HX.out.c4
    have c5 := HX.out.c5
    have c6 := HX.out.c6
    go_wp2_with fail
    refine (awake18 _).mono ?_
    rintro e W11 ⟨rfl, hb⟩
    have n0_ := Aside0.mk (HX.out.below hb)
    clear hb HX c0 c1 c2 c3 c4 c5 c6
    have HX := n0_
    clear n0_
    have c0 := HX.out.c0
    have c1 := HX.out.c1
    have c2 := HX.out.c2
    have c3 := HX.out.c3
    have c4 := HX.out.c4
    have c5 := HX.out.c5
    have c6 := HX.out.c6
    go_wp2_with fail
    refine (nil_Expire num _).mono ?_
    rintro e W12 ⟨rfl, hb⟩
    have n0_ := Aside0.mk (HX.out.below hb)
    clear hb HX c0 c1 c2 c3 c4 c5 c6
    have HX := n0_
    clear n0_
    have c0 := HX.out.c0
    have c1 := HX.out.c1
    have c2 := HX.out.c2
    have c3 := HX.out.c3
    have c4 := HX.out.c4
    have c5 := HX.out.c5
    have c6 := HX.out.c6
    go_wp2_with fail
    refine (nil_List _).mono ?_
    rintro e W13 ⟨rfl, hb⟩
    have n0_ := Aside0.mk (HX.out.below hb)
    clear hb HX c0 c1 c2 c3 c4 c5 c6
    have HX := n0_
    clear n0_
    have c0 := HX.out.c0
    have c1 := HX.out.c1
    have c2 := HX.out.c2
    have c3 := HX.out.c3
    have c4 := HX.out.c4
    have c5 := HX.out.c5
    have c6 := HX.out.c6
    go_wp2_with fail
    refine (nil_Len _).mono ?_
    rintro e W14 ⟨rfl, hb⟩
    have n0_ := Aside0.mk (HX.out.below hb)
    clear hb HX c0 c1 c2 c3 c4 c5 c6
    have HX := n0_
    clear n0_
    have c0 := HX.out.c0
    have c1 := HX.out.c1
    have c2 := HX.out.c2
    have c3 := HX.out.c3
    have c4 := HX.out.c4
    have c5 := HX.out.c5
    have c6 := HX.out.c6
    go_wp2_with fail
    refine (nil_Banned node _).mono ?_
    rintro e W15 ⟨rfl, hb⟩
    have n0_ := Aside0.mk (HX.out.below hb)
    clear hb HX c0 c1 c2 c3 c4 c5 c6
    have HX := n0_
    clear n0_
    have c0 := HX.out.c0
    have c1 := HX.out.c1
    have c2 := HX.out.c2
    have c3 := HX.out.c3
    have c4 := HX.out.c4
    have c5 := HX.out.c5
    have c6 := HX.out.c6
    go_wp2_with fail
    go_ret
    exact ⟨rfl, HX.out.bel⟩
end Go.Proofs.Ytpejjpecdkbleaa.Print
