/- The law of one block mixed into a state, by hand. -/
-- MANUAL mosaic/mosaiclaw01.ShaMixes making plain
import Derived.Test.YtelcaepenfjloaaPrK
import Derived.Test.YtelcaepenfjloaaMaSha
import Derived.Test.YtelcaepenfjloaaMaShaMix
import Derived.Test.YtelcaepenfjloaaMaShaMixes
import Derived.Test.YtelcaepenfjloaaMaShaSum
import Derived.Test.YtelcaepenfjloaaPr25
import Derived.Test.YtelcaepenfjloaaPr32
import Derived.Test.YtelcaepenfjloaaPr35
import Derived.Test.YtelcaepenfjloaaPureSha
import Derived.Test.YtelcaepenfjloaaMaShaMixes
import Derived.IntWalk
import Derived.BigQuiet
import Derived.Deep.QuietTactic
import Derived.Deep.RegionLaw
namespace Go.Proofs.Ytelcaepenfjloaa.Print
open Go.RowKit Go.Proofs.YtelcaepenfjloaaW.PrintWords Go.Proofs.YtelcaepenfjloaaW.PrintLast Go.Proofs.YtelcaepenfjloaaW.PrintMore
open Go.Proofs.Ytelcaepenfjloaa.Pure (awake01 mix_ev)
set_option linter.unusedVariables false
set_option linter.unusedSimpArgs false

theorem words_calls (l : List Int) (h8 : l.length = 8) (w : World) : Calls Try.prog 33 #[.agg (l.map (Value.int .u32)).toArray] w fun e w' => ∃ A, e = .returned (.slice A 8 8) ∧ Below w.heap.size w w' ∧ Kd.C (Kd.int .u32) w' A l.length l := by
  have hblk := Blk.new w w.heap.size 28 l _ rfl rfl
  have hC : Kd.C (Kd.int .u32) (w.alloc (.cells (l.map (Value.int .u32)).toArray 28)) (some ⟨w.heap.size, 0, none⟩) l.length l := by
    refine ⟨rfl, by rw [h8]; decide, fun _ => ⟨_, rfl, fun j p hj => ⟨[.int .u32 p], rfl, rfl, fun i u hu => ?_⟩⟩⟩
    have hjl : j < l.length := (List.getElem?_eq_some_iff.1 hj).1
    cases i with
    | succ i => simp at hu
    | zero =>
      obtain rfl : Value.int .u32 p = u := by simpa using hu
      have hc := hblk.at j hjl
      rw [List.getD_eq_getElem?_getD, hj, Option.getD_some] at hc
      show World.cell? _ (Addr.add ⟨w.heap.size, 0, none⟩ (j * 1 + 0)) = _
      rw [Nat.mul_one, Nat.add_zero, add_plain]
      exact hc
  obtain ⟨x0, x1, x2, x3, x4, x5, x6, x7, rfl⟩ := list8 l h8
  have HC := Aside0.mk hC
  clear hC hblk
  go_enter Try.func33, Try.ntmps33
  go_wp2
  go_ret
  exact ⟨_, rfl, below_alloc (Below.refl _ _) _, HC.out⟩
set_option maxHeartbeats 800000 in
set_option maxRecDepth 100000 in
theorem same_true (l : List Int) (h8 : l.length = 8) (A : Option Addr) (c : Nat) (w : World) (hr : Kd.C (Kd.int .u32) w A l.length l) :
    Calls Try.prog 31 #[.agg (l.map (Value.int .u32)).toArray, .slice A 8 c] w fun e w' => e = .returned (.bool true) ∧ Below w.heap.size w w' := by
  have HR := Aside0.mk hr
  have hblk := Aside0.mk (Blk.new w w.heap.size 28 l _ rfl rfl)
  clear hr
  obtain ⟨x0, x1, x2, x3, x4, x5, x6, x7, rfl⟩ := list8 l h8
  go_enter Try.func31, Try.ntmps31
  go_wp2
  go_loopg [5] 8 (fun gg v5 wr => ∃ i : Nat, v5 = .int .i64 i ∧ Aside0 (i + gg = 8) ∧ Aside0 (Blk wr w.heap.size 28 [x0, x1, x2, x3, x4, x5, x6, x7]) ∧ Aside0 (Below w.heap.size w wr))
  case atStart => exact ⟨0, rfl, ⟨rfl⟩, hblk, ⟨below_alloc (Below.refl _ _) _⟩⟩
  case round =>
    clear hblk
    obtain ⟨i, rfl, HG, HBk, HB⟩ := hrel
    by_cases hlt : (i : Int) < 8
    · obtain ⟨gg, rfl⟩ : ∃ m, gk = m + 1 := ⟨gk - 1, by have := HG.out; omega⟩
      obtain ⟨ad, hA, hx⟩ := Kd.at_int HR.out (i : Int) (by omega) (by simp; omega)
      rw [Int.toNat_natCast] at hx
      subst hA
      have hc := HBk.out.at i (by simp; omega)
      rw [Go.Proofs.Ytelcaepenfjloaa.Pure.rd_nat] at hx
      generalize ([x0, x1, x2, x3, x4, x5, x6, x7] : List Int).getD i 0 = x at hx hc
      replace hx := (HB.out.cell (World.block_lt_of_cell? _ _ hx)).trans hx
      go_wp2
      go_quiet (fail)
      go_wp2
      go_roundg gg
      case measure => omega
      case rel => exact ⟨i + 1, by go_num, ⟨by have := HG.out; omega⟩, ⟨HBk.out.drew nq⟩, ⟨pw_below_drewN HB.out nq⟩⟩
    · go_wp2
      go_ret
      exact ⟨rfl, HB.out⟩
/-- Two states in memory. -/
structure MixS (w W : World) (g1 g2 : Nat) (x y : List Int) : Prop where
  one : Blk W g1 28 x
  two : Blk W g2 28 y
  bel : Below w.heap.size w W
theorem MixS.below {w W W2 : World} {g1 g2 : Nat} {x y : List Int} (t : MixS w W g1 g2 x y) (hb : Below W.heap.size W W2) : MixS w W2 g1 g2 x y := ⟨t.one.below hb, t.two.below hb, below_step t.bel hb⟩
def mosaiclaw01_ShaMixes.f (l0 : List Int) (a1 : ByteArray) : Option Bool := some true
set_option maxHeartbeats 4000000 in
set_option maxRecDepth 100000 in
theorem mosaiclaw01_ShaMixes.calls (l0 : List Int) (a0 : ByteArray) (h8 : l0.length = 8) (r : Bool) (w : World) (h : mosaiclaw01_ShaMixes.f l0 a0 = some r) :
    Calls Try.prog 5 #[.agg (l0.map (Value.int .u32)).toArray, .string a0] w fun e w' => e = .returned (.bool r) ∧ Below w.heap.size w w' := by
  obtain rfl := Option.some.inj (show some true = some r from h)
  clear h
  have HA := Aside0.mk awake01
  by_cases hsz : a0.size = 64
  · have hmx := fun (W : World) => mixX_calls l0 h8 a0 hsz W
    have hl := mixB_len l0 (bytesOf a0) h8
    have hwd := fun (W : World) => words_calls l0 h8 W
    have hsm := fun (A : Option Addr) (c : Nat) (W : World) => same_true (mixB l0 (bytesOf a0)) hl A c W
    obtain ⟨km, hkm⟩ := (mix_ev l0 a0 h8 hsz).rounds
    have hrm : ∀ (A : Option Addr) (W : World), Kd.C (Kd.int .u32) W A l0.length l0 → Calls Try.prog 32 #[.slice A 8 8, .string a0] W fun e W2 => ∃ A c, e = .returned (.slice A 8 c) ∧ Below W.heap.size W W2 ∧ Kd.C (Kd.int .u32) W2 A (mixB l0 (bytesOf a0)).length (mixB l0 (bytesOf a0)) := by
      intro A W hr
      have hh := mosaicref01_Mix.calls km A 8 l0 a0 _ W hr (by omega) hkm
      rw [h8] at hh
      refine hh.mono ?_
      rintro e W2 ⟨v, rfl, ho, hb⟩
      obtain ⟨A, c, hv⟩ := Kd.R_slice ho
      rw [hl] at hv
      subst hv
      exact ⟨A, c, rfl, hb, (Kd.R_reads' ho).2.2⟩
    have hrs : ∀ (W : World), Calls Try.prog 35 #[] W fun e W2 => ∃ A c, e = .returned (.slice A 8 c) ∧ Below W.heap.size W W2 ∧ Kd.C (Kd.int .u32) W2 A startS.length startS := by
      intro W
      refine (mosaicref01_Start.calls startS W rfl).mono ?_
      rintro e W2 ⟨v, rfl, ho, hb⟩
      obtain ⟨A, c, hv⟩ := Kd.R_slice ho
      rw [show startS.length = 8 from rfl] at hv
      subst hv
      exact ⟨A, c, rfl, hb, (Kd.R_reads' ho).2.2⟩
    have hss := fun (A : Option Addr) (c : Nat) (W : World) => same_true startS rfl A c W
    generalize mixB l0 (bytesOf a0) = y at hmx hl hsm hrm
    obtain ⟨x0, x1, x2, x3, x4, x5, x6, x7, rfl⟩ := list8 l0 h8
    obtain ⟨y0, y1, y2, y3, y4, y5, y6, y7, rfl⟩ := list8 y hl
    have HMX : Aside0 (∀ W : World, Calls Try.prog 30 #[.agg #[.int .u32 x0, .int .u32 x1, .int .u32 x2, .int .u32 x3, .int .u32 x4, .int .u32 x5, .int .u32 x6, .int .u32 x7], .string a0] W fun e W2 => e = .returned (.tuple #[.agg #[.int .u32 y0, .int .u32 y1, .int .u32 y2, .int .u32 y3, .int .u32 y4, .int .u32 y5, .int .u32 y6, .int .u32 y7], .int .i64 0]) ∧ Below W.heap.size W W2) := ⟨hmx⟩
    have HWD : Aside0 (∀ W : World, Calls Try.prog 33 #[.agg #[.int .u32 x0, .int .u32 x1, .int .u32 x2, .int .u32 x3, .int .u32 x4, .int .u32 x5, .int .u32 x6, .int .u32 x7]] W fun e W2 => ∃ A, e = .returned (.slice A 8 8) ∧ Below W.heap.size W W2 ∧ Kd.C (Kd.int .u32) W2 A 8 [x0, x1, x2, x3, x4, x5, x6, x7]) := ⟨hwd⟩
    have HSM : Aside0 (∀ (A : Option Addr) (c : Nat) (W : World), Kd.C (Kd.int .u32) W A 8 [y0, y1, y2, y3, y4, y5, y6, y7] → Calls Try.prog 31 #[.agg #[.int .u32 y0, .int .u32 y1, .int .u32 y2, .int .u32 y3, .int .u32 y4, .int .u32 y5, .int .u32 y6, .int .u32 y7], .slice A 8 c] W fun e W2 => e = .returned (.bool true) ∧ Below W.heap.size W W2) := ⟨hsm⟩
    have HRM : Aside0 (∀ (A : Option Addr) (W : World), Kd.C (Kd.int .u32) W A 8 [x0, x1, x2, x3, x4, x5, x6, x7] → Calls Try.prog 32 #[.slice A 8 8, .string a0] W fun e W2 => ∃ A c, e = .returned (.slice A 8 c) ∧ Below W.heap.size W W2 ∧ Kd.C (Kd.int .u32) W2 A 8 [y0, y1, y2, y3, y4, y5, y6, y7]) := ⟨hrm⟩
    have HRS : Aside0 (∀ W : World, Calls Try.prog 35 #[] W fun e W2 => ∃ A c, e = .returned (.slice A 8 c) ∧ Below W.heap.size W W2 ∧ Kd.C (Kd.int .u32) W2 A 8 startS) := ⟨hrs⟩
    have HSS : Aside0 (∀ (A : Option Addr) (c : Nat) (W : World), Kd.C (Kd.int .u32) W A 8 startS → Calls Try.prog 31 #[.agg #[.int .u32 1779033703, .int .u32 3144134277, .int .u32 1013904242, .int .u32 2773480762, .int .u32 1359893119, .int .u32 2600822924, .int .u32 528734635, .int .u32 1541459225], .slice A 8 c] W fun e W2 => e = .returned (.bool true) ∧ Below W.heap.size W W2) := ⟨hss⟩
    have HST : Aside0 (∀ W : World, Calls Try.prog 34 #[] W fun e W2 => e = .returned (.agg #[.int .u32 1779033703, .int .u32 3144134277, .int .u32 1013904242, .int .u32 2773480762, .int .u32 1359893119, .int .u32 2600822924, .int .u32 528734635, .int .u32 1541459225]) ∧ Below W.heap.size W W2) := ⟨start_calls⟩
    clear hmx hl hwd hsm hkm hrm hrs hss
    have hs64 : (a0.size : Int) = 64 := by omega
    have h1 := Aside0.mk (Blk.new w w.heap.size 28 [x0, x1, x2, x3, x4, x5, x6, x7] _ rfl rfl)
    go_enter Try.func5, Try.ntmps5
    go_wp2_with fail
    refine (HMX.out _).mono ?_
    rintro e W6 ⟨rfl, hb⟩
    have h2 := Aside0.mk (h1.out.below hb)
    have hb2 := Aside0.mk (below_step (below_alloc (Below.refl _ _) _) hb)
    have hs8' := blk_size8 (x := [y0, y1, y2, y3, y4, y5, y6, y7]) rfl
    have ho8 := blk_one [y0, y1, y2, y3, y4, y5, y6, y7]
    have hz8 : ((List.replicate 8 (0 : Int)).map (Value.int .u32)).toArray.size = (([y0, y1, y2, y3, y4, y5, y6, y7] : List Int).map (Value.int .u32)).toArray.size := rfl
    have hblk := Aside0.mk (Blk.new W6 W6.heap.size 28 (List.replicate 8 0) _ rfl rfl)
    have hne : ¬ w.heap.size = W6.heap.size := fun e => by have := blk_lt h2.out.out; omega
    clear hb h1 HMX
    go_wp2_with (first
      | (refine wpList_store_row rfl 28 (.tmp 5) (.tmp 11) rfl W6.heap.size (([y0, y1, y2, y3, y4, y5, y6, y7] : List Int).map (Value.int .u32)).toArray rfl rfl 28 _ hblk.out.out hs8' hz8 ho8 ?_; refine gen_world (fun W => MixS w W w.heap.size W6.heap.size [x0, x1, x2, x3, x4, x5, x6, x7] [y0, y1, y2, y3, y4, y5, y6, y7]) ⟨(h2.out.alloc _).rowfar hne _, hblk.out.row _, below_row (below_alloc hb2.out _) hb2.out.size _⟩ ?_; rintro W7 hm; have HM := Aside0.mk hm; clear hm)
      | fail)
    generalize W6.heap.size = g2 at HM ⊢
    generalize w.heap.size = g1 at HM ⊢
    have k0 := (Aside0.mk HM.out.one).out.at 0 (by simp); have k1 := (Aside0.mk HM.out.one).out.at 1 (by simp); have k2 := (Aside0.mk HM.out.one).out.at 2 (by simp); have k3 := (Aside0.mk HM.out.one).out.at 3 (by simp); have k4 := (Aside0.mk HM.out.one).out.at 4 (by simp); have k5 := (Aside0.mk HM.out.one).out.at 5 (by simp); have k6 := (Aside0.mk HM.out.one).out.at 6 (by simp); have k7 := (Aside0.mk HM.out.one).out.at 7 (by simp)
    have q0 := (Aside0.mk HM.out.two).out.at 0 (by simp); have q1 := (Aside0.mk HM.out.two).out.at 1 (by simp); have q2 := (Aside0.mk HM.out.two).out.at 2 (by simp); have q3 := (Aside0.mk HM.out.two).out.at 3 (by simp); have q4 := (Aside0.mk HM.out.two).out.at 4 (by simp); have q5 := (Aside0.mk HM.out.two).out.at 5 (by simp); have q6 := (Aside0.mk HM.out.two).out.at 6 (by simp); have q7 := (Aside0.mk HM.out.two).out.at 7 (by simp)
    go_region_law (first
      | (refine goes_ Try.func25 (by kernel_rfl) rfl #[] (by rfl) rfl rfl (by (try simp only [List.map_toArray, List.map_cons, List.map_nil]); first | done | rfl) ?_; refine (mosaiclaw01_awake.calls true _ HA.out).mono ?_; rintro e W7 ⟨rfl, hb⟩; refine ⟨_, rfl, ?_⟩; have n0_ := Aside0.mk (show MixS w _ g1 g2 _ _ from by first | exact MixS.below HM.out hb | exact MixS.below (HM.out.below (Drawn0.below ⟨1, rfl⟩)) hb); clear HM hb; have HM := n0_; clear n0_; clear k0 k1 k2 k3 k4 k5 k6 k7 q0 q1 q2 q3 q4 q5 q6 q7; have k0 := (Aside0.mk HM.out.one).out.at 0 (by simp); have k1 := (Aside0.mk HM.out.one).out.at 1 (by simp); have k2 := (Aside0.mk HM.out.one).out.at 2 (by simp); have k3 := (Aside0.mk HM.out.one).out.at 3 (by simp); have k4 := (Aside0.mk HM.out.one).out.at 4 (by simp); have k5 := (Aside0.mk HM.out.one).out.at 5 (by simp); have k6 := (Aside0.mk HM.out.one).out.at 6 (by simp); have k7 := (Aside0.mk HM.out.one).out.at 7 (by simp); have q0 := (Aside0.mk HM.out.two).out.at 0 (by simp); have q1 := (Aside0.mk HM.out.two).out.at 1 (by simp); have q2 := (Aside0.mk HM.out.two).out.at 2 (by simp); have q3 := (Aside0.mk HM.out.two).out.at 3 (by simp); have q4 := (Aside0.mk HM.out.two).out.at 4 (by simp); have q5 := (Aside0.mk HM.out.two).out.at 5 (by simp); have q6 := (Aside0.mk HM.out.two).out.at 6 (by simp); have q7 := (Aside0.mk HM.out.two).out.at 7 (by simp))
      | (refine goes_ Try.func33 (by kernel_rfl) rfl #[.agg #[.int .u32 x0, .int .u32 x1, .int .u32 x2, .int .u32 x3, .int .u32 x4, .int .u32 x5, .int .u32 x6, .int .u32 x7]] (by rfl) rfl rfl (by (try simp only [List.map_toArray, List.map_cons, List.map_nil]); first | done | rfl) ?_; refine (HWD.out _).mono ?_; rintro e W7 ⟨A7, rfl, hb, hc7⟩; refine ⟨_, rfl, ?_⟩; have HC7 := Aside0.mk hc7; clear hc7; have n0_ := Aside0.mk (show MixS w _ g1 g2 _ _ from by first | exact MixS.below HM.out hb | exact MixS.below (HM.out.below (Drawn0.below ⟨1, rfl⟩)) hb); clear HM hb; have HM := n0_; clear n0_; clear k0 k1 k2 k3 k4 k5 k6 k7 q0 q1 q2 q3 q4 q5 q6 q7; have k0 := (Aside0.mk HM.out.one).out.at 0 (by simp); have k1 := (Aside0.mk HM.out.one).out.at 1 (by simp); have k2 := (Aside0.mk HM.out.one).out.at 2 (by simp); have k3 := (Aside0.mk HM.out.one).out.at 3 (by simp); have k4 := (Aside0.mk HM.out.one).out.at 4 (by simp); have k5 := (Aside0.mk HM.out.one).out.at 5 (by simp); have k6 := (Aside0.mk HM.out.one).out.at 6 (by simp); have k7 := (Aside0.mk HM.out.one).out.at 7 (by simp); have q0 := (Aside0.mk HM.out.two).out.at 0 (by simp); have q1 := (Aside0.mk HM.out.two).out.at 1 (by simp); have q2 := (Aside0.mk HM.out.two).out.at 2 (by simp); have q3 := (Aside0.mk HM.out.two).out.at 3 (by simp); have q4 := (Aside0.mk HM.out.two).out.at 4 (by simp); have q5 := (Aside0.mk HM.out.two).out.at 5 (by simp); have q6 := (Aside0.mk HM.out.two).out.at 6 (by simp); have q7 := (Aside0.mk HM.out.two).out.at 7 (by simp))
      | (refine goes_ Try.func32 (by kernel_rfl) rfl #[.slice A7 8 8, .string a0] (by rfl) rfl rfl (by (try simp only [List.map_toArray, List.map_cons, List.map_nil]); first | done | rfl) ?_; refine (HRM.out A7 _ HC7.out).mono ?_; rintro e W7 ⟨A8, c8, rfl, hb, hc8⟩; refine ⟨_, rfl, ?_⟩; have HC8 := Aside0.mk hc8; clear hc8; have n0_ := Aside0.mk (show MixS w _ g1 g2 _ _ from by first | exact MixS.below HM.out hb | exact MixS.below (HM.out.below (Drawn0.below ⟨1, rfl⟩)) hb); clear HM hb; have HM := n0_; clear n0_; clear k0 k1 k2 k3 k4 k5 k6 k7 q0 q1 q2 q3 q4 q5 q6 q7; have k0 := (Aside0.mk HM.out.one).out.at 0 (by simp); have k1 := (Aside0.mk HM.out.one).out.at 1 (by simp); have k2 := (Aside0.mk HM.out.one).out.at 2 (by simp); have k3 := (Aside0.mk HM.out.one).out.at 3 (by simp); have k4 := (Aside0.mk HM.out.one).out.at 4 (by simp); have k5 := (Aside0.mk HM.out.one).out.at 5 (by simp); have k6 := (Aside0.mk HM.out.one).out.at 6 (by simp); have k7 := (Aside0.mk HM.out.one).out.at 7 (by simp); have q0 := (Aside0.mk HM.out.two).out.at 0 (by simp); have q1 := (Aside0.mk HM.out.two).out.at 1 (by simp); have q2 := (Aside0.mk HM.out.two).out.at 2 (by simp); have q3 := (Aside0.mk HM.out.two).out.at 3 (by simp); have q4 := (Aside0.mk HM.out.two).out.at 4 (by simp); have q5 := (Aside0.mk HM.out.two).out.at 5 (by simp); have q6 := (Aside0.mk HM.out.two).out.at 6 (by simp); have q7 := (Aside0.mk HM.out.two).out.at 7 (by simp))
      | (refine goes_ Try.func31 (by kernel_rfl) rfl #[.agg #[.int .u32 y0, .int .u32 y1, .int .u32 y2, .int .u32 y3, .int .u32 y4, .int .u32 y5, .int .u32 y6, .int .u32 y7], .slice A8 8 c8] (by rfl) rfl rfl (by (try simp only [List.map_toArray, List.map_cons, List.map_nil]); first | done | rfl) ?_; refine (HSM.out A8 c8 _ HC8.out).mono ?_; rintro e W7 ⟨rfl, hb⟩; refine ⟨_, rfl, ?_⟩; have n0_ := Aside0.mk (show MixS w _ g1 g2 _ _ from by first | exact MixS.below HM.out hb | exact MixS.below (HM.out.below (Drawn0.below ⟨1, rfl⟩)) hb); clear HM hb; have HM := n0_; clear n0_; clear k0 k1 k2 k3 k4 k5 k6 k7 q0 q1 q2 q3 q4 q5 q6 q7; have k0 := (Aside0.mk HM.out.one).out.at 0 (by simp); have k1 := (Aside0.mk HM.out.one).out.at 1 (by simp); have k2 := (Aside0.mk HM.out.one).out.at 2 (by simp); have k3 := (Aside0.mk HM.out.one).out.at 3 (by simp); have k4 := (Aside0.mk HM.out.one).out.at 4 (by simp); have k5 := (Aside0.mk HM.out.one).out.at 5 (by simp); have k6 := (Aside0.mk HM.out.one).out.at 6 (by simp); have k7 := (Aside0.mk HM.out.one).out.at 7 (by simp); have q0 := (Aside0.mk HM.out.two).out.at 0 (by simp); have q1 := (Aside0.mk HM.out.two).out.at 1 (by simp); have q2 := (Aside0.mk HM.out.two).out.at 2 (by simp); have q3 := (Aside0.mk HM.out.two).out.at 3 (by simp); have q4 := (Aside0.mk HM.out.two).out.at 4 (by simp); have q5 := (Aside0.mk HM.out.two).out.at 5 (by simp); have q6 := (Aside0.mk HM.out.two).out.at 6 (by simp); have q7 := (Aside0.mk HM.out.two).out.at 7 (by simp))
      | (refine goes_ Try.func34 (by kernel_rfl) rfl #[] (by rfl) rfl rfl (by (try simp only [List.map_toArray, List.map_cons, List.map_nil]); first | done | rfl) ?_; refine (HST.out _).mono ?_; rintro e W7 ⟨rfl, hb⟩; refine ⟨_, rfl, ?_⟩; have n0_ := Aside0.mk (show MixS w _ g1 g2 _ _ from by first | exact MixS.below HM.out hb | exact MixS.below (HM.out.below (Drawn0.below ⟨1, rfl⟩)) hb); clear HM hb; have HM := n0_; clear n0_; clear k0 k1 k2 k3 k4 k5 k6 k7 q0 q1 q2 q3 q4 q5 q6 q7; have k0 := (Aside0.mk HM.out.one).out.at 0 (by simp); have k1 := (Aside0.mk HM.out.one).out.at 1 (by simp); have k2 := (Aside0.mk HM.out.one).out.at 2 (by simp); have k3 := (Aside0.mk HM.out.one).out.at 3 (by simp); have k4 := (Aside0.mk HM.out.one).out.at 4 (by simp); have k5 := (Aside0.mk HM.out.one).out.at 5 (by simp); have k6 := (Aside0.mk HM.out.one).out.at 6 (by simp); have k7 := (Aside0.mk HM.out.one).out.at 7 (by simp); have q0 := (Aside0.mk HM.out.two).out.at 0 (by simp); have q1 := (Aside0.mk HM.out.two).out.at 1 (by simp); have q2 := (Aside0.mk HM.out.two).out.at 2 (by simp); have q3 := (Aside0.mk HM.out.two).out.at 3 (by simp); have q4 := (Aside0.mk HM.out.two).out.at 4 (by simp); have q5 := (Aside0.mk HM.out.two).out.at 5 (by simp); have q6 := (Aside0.mk HM.out.two).out.at 6 (by simp); have q7 := (Aside0.mk HM.out.two).out.at 7 (by simp))
      | (refine goes_ Try.func35 (by kernel_rfl) rfl #[] (by rfl) rfl rfl (by (try simp only [List.map_toArray, List.map_cons, List.map_nil]); first | done | rfl) ?_; refine (HRS.out _).mono ?_; rintro e W7 ⟨A9, c9, rfl, hb, hc9⟩; refine ⟨_, rfl, ?_⟩; have HC9 := Aside0.mk hc9; clear hc9; have n0_ := Aside0.mk (show MixS w _ g1 g2 _ _ from by first | exact MixS.below HM.out hb | exact MixS.below (HM.out.below (Drawn0.below ⟨1, rfl⟩)) hb); clear HM hb; have HM := n0_; clear n0_; clear k0 k1 k2 k3 k4 k5 k6 k7 q0 q1 q2 q3 q4 q5 q6 q7; have k0 := (Aside0.mk HM.out.one).out.at 0 (by simp); have k1 := (Aside0.mk HM.out.one).out.at 1 (by simp); have k2 := (Aside0.mk HM.out.one).out.at 2 (by simp); have k3 := (Aside0.mk HM.out.one).out.at 3 (by simp); have k4 := (Aside0.mk HM.out.one).out.at 4 (by simp); have k5 := (Aside0.mk HM.out.one).out.at 5 (by simp); have k6 := (Aside0.mk HM.out.one).out.at 6 (by simp); have k7 := (Aside0.mk HM.out.one).out.at 7 (by simp); have q0 := (Aside0.mk HM.out.two).out.at 0 (by simp); have q1 := (Aside0.mk HM.out.two).out.at 1 (by simp); have q2 := (Aside0.mk HM.out.two).out.at 2 (by simp); have q3 := (Aside0.mk HM.out.two).out.at 3 (by simp); have q4 := (Aside0.mk HM.out.two).out.at 4 (by simp); have q5 := (Aside0.mk HM.out.two).out.at 5 (by simp); have q6 := (Aside0.mk HM.out.two).out.at 6 (by simp); have q7 := (Aside0.mk HM.out.two).out.at 7 (by simp))
      | (refine goes_ Try.func31 (by kernel_rfl) rfl #[.agg #[.int .u32 1779033703, .int .u32 3144134277, .int .u32 1013904242, .int .u32 2773480762, .int .u32 1359893119, .int .u32 2600822924, .int .u32 528734635, .int .u32 1541459225], .slice A9 8 c9] (by rfl) rfl rfl (by (try simp only [List.map_toArray, List.map_cons, List.map_nil]); first | done | rfl) ?_; refine (HSS.out A9 c9 _ HC9.out).mono ?_; rintro e W7 ⟨rfl, hb⟩; refine ⟨_, rfl, ?_⟩; have n0_ := Aside0.mk (show MixS w _ g1 g2 _ _ from by first | exact MixS.below HM.out hb | exact MixS.below (HM.out.below (Drawn0.below ⟨1, rfl⟩)) hb); clear HM hb; have HM := n0_; clear n0_; clear k0 k1 k2 k3 k4 k5 k6 k7 q0 q1 q2 q3 q4 q5 q6 q7; have k0 := (Aside0.mk HM.out.one).out.at 0 (by simp); have k1 := (Aside0.mk HM.out.one).out.at 1 (by simp); have k2 := (Aside0.mk HM.out.one).out.at 2 (by simp); have k3 := (Aside0.mk HM.out.one).out.at 3 (by simp); have k4 := (Aside0.mk HM.out.one).out.at 4 (by simp); have k5 := (Aside0.mk HM.out.one).out.at 5 (by simp); have k6 := (Aside0.mk HM.out.one).out.at 6 (by simp); have k7 := (Aside0.mk HM.out.one).out.at 7 (by simp); have q0 := (Aside0.mk HM.out.two).out.at 0 (by simp); have q1 := (Aside0.mk HM.out.two).out.at 1 (by simp); have q2 := (Aside0.mk HM.out.two).out.at 2 (by simp); have q3 := (Aside0.mk HM.out.two).out.at 3 (by simp); have q4 := (Aside0.mk HM.out.two).out.at 4 (by simp); have q5 := (Aside0.mk HM.out.two).out.at 5 (by simp); have q6 := (Aside0.mk HM.out.two).out.at 6 (by simp); have q7 := (Aside0.mk HM.out.two).out.at 7 (by simp)))
    all_goals
      go_wp2_with fail
      go_ret
      exact ⟨rfl, HM.out.bel⟩
  · obtain ⟨x0, x1, x2, x3, x4, x5, x6, x7, rfl⟩ := list8 l0 h8
    have HMX : Aside0 (∀ W : World, Calls Try.prog 30 #[.agg #[.int .u32 x0, .int .u32 x1, .int .u32 x2, .int .u32 x3, .int .u32 x4, .int .u32 x5, .int .u32 x6, .int .u32 x7], .string a0] W fun e W2 => e = .returned (.tuple #[.agg #[.int .u32 0, .int .u32 0, .int .u32 0, .int .u32 0, .int .u32 0, .int .u32 0, .int .u32 0, .int .u32 0], .int .i64 1]) ∧ Below W.heap.size W W2) := ⟨fun W => mixBad_calls [x0, x1, x2, x3, x4, x5, x6, x7] rfl a0 hsz W⟩
    have heq : ∀ W : World, (Op.equalIn 10000 28 (.agg #[.int .u32 0, .int .u32 0, .int .u32 0, .int .u32 0, .int .u32 0, .int .u32 0, .int .u32 0, .int .u32 0]) (.agg #[.int .u32 0, .int .u32 0, .int .u32 0, .int .u32 0, .int .u32 0, .int .u32 0, .int .u32 0, .int .u32 0])).run Try.prog W = .ok true W := fun W => by kernel_rfl
    have hs64 : ((a0.size : Int) != 64) = true := by simp; omega
    have hs65 : ((a0.size : Int) == 64) = false := by simp; omega
    go_enter Try.func5, Try.ntmps5
    go_wp2_with fail
    refine (HMX.out _).mono ?_
    rintro e W6 ⟨rfl, hb⟩
    have HB := Aside0.mk (below_step (below_alloc (Below.refl _ _) _) hb)
    clear hb HMX
    go_wp2_with (first
      | (go_at_call 25; refine (mosaiclaw01_awake.calls true _ HA.out).mono ?_; rintro e W7 ⟨rfl, hb⟩; have HW7 := Aside0.mk ((Blk.new W6 W6.heap.size 28 (List.replicate 8 0) _ rfl rfl).below hb); have HB7 := Aside0.mk (below_step (below_alloc HB.out _) hb); clear hb HB; have k0 := HW7.out.at 0 (by simp); have k1 := HW7.out.at 1 (by simp); have k2 := HW7.out.at 2 (by simp); have k3 := HW7.out.at 3 (by simp); have k4 := HW7.out.at 4 (by simp); have k5 := HW7.out.at 5 (by simp); have k6 := HW7.out.at 6 (by simp); have k7 := HW7.out.at 7 (by simp)))
    go_ret
    exact ⟨rfl, HB7.out⟩
end Go.Proofs.Ytelcaepenfjloaa.Print
