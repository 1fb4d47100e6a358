/- The law StoreNil, by hand. -/
-- MANUAL mosaic/mosaiclaw14.StoreNil making plain
import Derived.Test.YtcddajdjmlmpdaaPrK
import Derived.Test.YtcddajdjmlmpdaaMaStore3
import Derived.Test.YtcddajdjmlmpdaaMaStore4
import Derived.Test.YtcddajdjmlmpdaaMaStore6
import Derived.Test.YtcddajdjmlmpdaaMaStore7
import Derived.Test.YtcddajdjmlmpdaaPr39
import Derived.Test.YtcddajdjmlmpdaaMaStore7
import Derived.Test.YtcddajdjmlmpdaaPr39
import Derived.IntWalk
import Derived.BigQuiet
import Derived.Deep.QuietTactic
import Derived.Deep.RegionLaw
import Derived.Deep.RegionHeld3
import Derived.RegionTactic
import Derived.Outline
import Derived.Laws.CopyOwn
namespace Go.Proofs.Ytcddajdjmlmpdaa.Print
open Go.RowKit Go.Proofs.YtcddajdjmlmpdaaW.PrintWords Go.Proofs.YtcddajdjmlmpdaaW.PrintLast Go.Proofs.YtcddajdjmlmpdaaW.PrintMore
set_option linter.unusedVariables false
set_option linter.unusedSimpArgs false

theorem few_some (a b c d e f : Int) (s : ByteArray) (l : List Int) (t : ByteArray) : ∃ r, mosaiclaw14_few.f a b c d e f s l t = some r := by
  unfold mosaiclaw14_few.f
  split
  · split
    · exact ⟨_, rfl⟩
    · exact ⟨_, rfl⟩
  · exact ⟨_, rfl⟩
def mosaiclaw14_StoreNil.f (a0_0 a0_1 a0_2 a0_3 : Int) (a0_4 : ByteArray) (l0_5 : List Int) (a0_6 : ByteArray) (a1 : Int) : Option Bool := some true
set_option maxHeartbeats 4000000 in
set_option maxRecDepth 100000 in
theorem mosaiclaw14_StoreNil.calls (a0_0 a0_1 a0_2 a0_3 : Int) (a0_4 : ByteArray) (A0_5 : Option Addr) (c0_5 : Nat) (l0_5 : List Int) (a0_6 : ByteArray) (a1 : Int) (r : Bool) (w : World) (hr0_5 : Kd.C (Kd.int .i64) w A0_5 l0_5.length l0_5) (hc0_5 : l0_5.length ≤ c0_5) (h : mosaiclaw14_StoreNil.f a0_0 a0_1 a0_2 a0_3 a0_4 l0_5 a0_6 a1 = some r) :
    Calls Try.prog 11 #[.agg #[.int .i64 a0_0, .int .i64 a0_1, .int .i64 a0_2, .int .i64 a0_3, .string a0_4, .slice A0_5 l0_5.length c0_5, .string a0_6], .int .i64 a1] w fun e w' => e = .returned (.bool r) ∧ Below w.heap.size w w' := by
  obtain rfl := Option.some.inj (show some true = some r from h)
  clear h
  have HX := Aside0.mk (heap_alloc_new w (.cells #[.int .i64 a0_0, .int .i64 a0_1, .int .i64 a0_2, .int .i64 a0_3, .string a0_4, .slice A0_5 l0_5.length c0_5, .string a0_6] 32))
  have HB0 := Aside0.mk (below_alloc (Below.refl w.heap.size w) (.cells #[.int .i64 a0_0, .int .i64 a0_1, .int .i64 a0_2, .int .i64 a0_3, .string a0_4, .slice A0_5 l0_5.length c0_5, .string a0_6] 32))
  obtain ⟨b, hf⟩ := few_some 0 0 a0_0 a0_1 a0_2 a0_3 a0_4 l0_5 a0_6
  have HF := Aside0.mk (mosaiclaw14_few.calls 0 0 a0_0 a0_1 a0_2 a0_3 a0_4 A0_5 c0_5 l0_5 a0_6 b _ (Kd.C_below hr0_5 HB0.out) hc0_5 hf)
  clear hr0_5 hc0_5 hf
  cases b with
  | false =>
    go_enter Try.func11, Try.ntmps11
    go_wp2_with fail
    refine HF.out.mono ?_
    rintro e W2 ⟨rfl, hb⟩
    have HB2 := Aside0.mk (below_step HB0.out hb)
    clear hb HF
    go_wp2_with fail
    refine (awake14 _).mono ?_
    rintro e W3 ⟨rfl, hb⟩
    have HB3 := Aside0.mk (below_step HB2.out hb)
    clear hb
    go_wp2_with fail
    go_ret
    exact ⟨rfl, HB3.out⟩
  | true =>
    go_enter Try.func11, Try.ntmps11
    go_wp2_with fail
    refine HF.out.mono ?_
    rintro e W2 ⟨rfl, hb⟩
    have HB2 := Aside0.mk (below_step HB0.out hb)
    have HX2 := Aside0.mk (blk_below HX.out hb)
    clear hb HF HX
    have c0 := (show W2.cell? ⟨w.heap.size, 0, none⟩ = some (.int .i64 a0_0) from blk_cell HX2.out 0)
    have c1 := (show W2.cell? ⟨w.heap.size, 1, none⟩ = some (.int .i64 a0_1) from blk_cell HX2.out 1)
    have c2 := (show W2.cell? ⟨w.heap.size, 2, none⟩ = some (.int .i64 a0_2) from blk_cell HX2.out 2)
    have c3 := (show W2.cell? ⟨w.heap.size, 3, none⟩ = some (.int .i64 a0_3) from blk_cell HX2.out 3)
    have c4 := (show W2.cell? ⟨w.heap.size, 4, none⟩ = some (.string a0_4) from blk_cell HX2.out 4)
    have c5 := (show W2.cell? ⟨w.heap.size, 5, none⟩ = some (.slice A0_5 l0_5.length c0_5) from blk_cell HX2.out 5)
    have c6 := (show W2.cell? ⟨w.heap.size, 6, none⟩ = some (.string a0_6) from blk_cell HX2.out 6)
    go_wp2_with fail
    refine (AddS_nil (⟨a0_0, a0_1, ⟨a0_2, a0_3, a0_4⟩, l0_5, a0_6⟩ : En) W2).mono ?_
    rintro e W3 ⟨rfl, hb⟩
    have HB3 := Aside0.mk (below_step HB2.out hb)
    clear hb c0 c1 c2 c3 c4 c5 c6 HX2 HB2 HB0
    go_wp2_with fail
    refine (GetS_nil a1 W3).mono ?_
    rintro e W4 ⟨rfl, hb⟩
    have HB4 := Aside0.mk (below_step HB3.out hb)
    clear hb HB3
    go_wp2_with fail
    refine (awake14 _).mono ?_
    rintro e W5 ⟨rfl, hb⟩
    have HB5 := Aside0.mk (below_step (below_alloc HB4.out _) hb)
    clear hb HB4
    go_wp2_with (first
      | (go_at_call 16; refine (DropS_nil a1 _).mono ?_; rintro e W6 ⟨rfl, rfl⟩)
      | (go_at_call 40; refine (DropPeerS_nil a1 _).mono ?_; rintro e W7 ⟨rfl, hb⟩; have HB7 := Aside0.mk (below_step HB5.out hb); clear hb)
      | (go_at_call 44; refine (AllS_nil _).mono ?_; rintro e W8 ⟨rfl, hb⟩; have HB8 := Aside0.mk (below_step HB7.out hb); clear hb)
      | (go_at_call 46; refine (OfS_nil a1 _).mono ?_; rintro e W9 ⟨rfl, hb⟩; have HB9 := Aside0.mk (below_step HB8.out hb); clear hb)
      | (go_at_call 53; refine (WithS_nil a1 _).mono ?_; rintro e W10 ⟨rfl, hb⟩; have HB10 := Aside0.mk (below_step HB9.out hb); clear hb)
      | (go_at_call 17; refine (LenS_nil _).mono ?_; rintro e W11 ⟨rfl, rfl⟩)
      | (go_at_call 47; refine (RoomS_nil _).mono ?_; rintro e W12 ⟨rfl, rfl⟩))
    go_ret
    exact ⟨rfl, HB10.out⟩
end Go.Proofs.Ytcddajdjmlmpdaa.Print
