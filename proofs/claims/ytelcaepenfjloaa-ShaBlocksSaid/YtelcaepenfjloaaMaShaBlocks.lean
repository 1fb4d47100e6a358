/- The law that the sum is what mixing makes of the start, by hand. -/
-- MANUAL mosaic/mosaiclaw01.ShaBlocks making plain
import Derived.Test.YtelcaepenfjloaaPrK
import Derived.Test.YtelcaepenfjloaaMaSha
import Derived.Test.YtelcaepenfjloaaMaShaMix
import Derived.Test.YtelcaepenfjloaaMaShaMixes
import Derived.Test.YtelcaepenfjloaaMaShaParts
import Derived.Test.YtelcaepenfjloaaMaShaSum
import Derived.Test.YtelcaepenfjloaaMaShaSum2
import Derived.Test.YtelcaepenfjloaaMaShaTop
import Derived.Test.YtelcaepenfjloaaPr25
import Derived.Test.YtelcaepenfjloaaPr28
import Derived.Test.YtelcaepenfjloaaPureSha
import Derived.Test.YtelcaepenfjloaaMaShaMixes
import Derived.IntWalk
import Derived.StillTailTactics
import Derived.Outline
namespace Go.Proofs.Ytelcaepenfjloaa.Print
open Go.RowKit Go.Proofs.YtelcaepenfjloaaW.PrintWords Go.Proofs.YtelcaepenfjloaaW.PrintLast Go.Proofs.YtelcaepenfjloaaW.PrintMore
open Go.Proofs.Ytelcaepenfjloaa.Pure (blocks_more bytesOf_append bytesOf_extract bytesOf_strOfNums shaSum_eq refsum_ev sha_f awake01 outB_length blocks_len)
set_option linter.unusedVariables false
set_option linter.unusedSimpArgs false

def mosaiclaw01_ShaBlocks.f (a0 : ByteArray) : Option Bool := some true
theorem strOfNums_append (a b : List Int) : strOfNums a ++ strOfNums b = strOfNums (a ++ b) := by
  apply ByteArray.ext
  rw [ByteArray.data_append]
  apply Array.ext'
  rw [Array.toList_append, strOfNums_data, strOfNums_data, strOfNums_data, List.map_append]
theorem padB_len (n : Int) (h0 : 0 ≤ n) (h1 : n ≤ 65536) : (padB n).size ≤ 72 ∧ (n + (padB n).size) % 64 = 0 := by
  rw [padB_size n h0]
  omega
theorem blocks_sum (s : ByteArray) (h : s.size ≤ 2000) (K : Nat) (hK : (s ++ padB s.size).size = 64 * K) : shaSum s = strOfNums (outB (blocks K startS (bytesOf (s ++ padB s.size)))) := by
  have hp := padB_len s.size (by omega) (by omega)
  have hl := padL_length (s.size : Int) (by omega)
  have hz := padB_size (s.size : Int) (by omega)
  rw [ByteArray.size_append] at hK
  rw [shaSum_eq s (by omega) (s.size + 72) (by omega), bytesOf_append, padB, bytesOf_strOfNums _ (padL_range _)]
  congr 2
  exact blocks_more _ _ _ _ (by rw [List.length_append, bytesOf_length]; omega) (by rw [List.length_append, bytesOf_length]; omega)
/-- The state's block. -/
structure StB (w W : World) (g : Nat) (st : List Int) : Prop where
  blk : Blk W g 28 st
  len : st.length = 8
  bel : Below w.heap.size w W
  ge : w.heap.size ≤ g
theorem StB.below {w W W2 : World} {g : Nat} {st : List Int} (t : StB w W g st) (hb : Below W.heap.size W W2) : StB w W2 g st := ⟨t.blk.below hb, t.len, below_step t.bel hb, t.ge⟩
theorem StB.far {w W : World} {g g' : Nat} {st : List Int} (t : StB w W g st) (hne : ¬ g = g') (hge : w.heap.size ≤ g') (i : Nat) (u : Value) : StB w (W.setCell ⟨g', i, none⟩ u) g st := ⟨t.blk.far hne _, t.len, t.bel.setCell hge _, t.ge⟩
theorem StB.row {w W : World} {g : Nat} {st : List Int} (t : StB w W g st) (y : List Int) (hy : y.length = 8) : StB w (W.setRow g (y.map (Value.int .u32)).toArray) g y := ⟨t.blk.row y, hy, below_row t.bel t.ge _, t.ge⟩
set_option maxHeartbeats 4000000 in
set_option maxRecDepth 100000 in
theorem mosaiclaw01_ShaBlocks.calls (a0 : ByteArray) (r : Bool) (w : World) (h : mosaiclaw01_ShaBlocks.f a0 = some r) :
    Calls Try.prog 7 #[.string a0] w fun e w' => e = .returned (.bool r) ∧ Below w.heap.size w w' := by
  obtain rfl := Option.some.inj (show some true = some r from h)
  clear h
  have HA := Aside0.mk awake01
  have HB := Aside0.mk (Below.refl w.heap.size w)
  by_cases hbig : (a0.size : Int) > 2000
  · go_enter Try.func7, Try.ntmps7
    go_wp2_with (go_at_call 25; refine (mosaiclaw01_awake.calls true _ HA.out).mono ?_; rintro e W3 ⟨rfl, hb⟩; have n0_ := Aside0.mk (below_step (by repeat (first | (with_reducible first | exact HB.out | apply below_alloc | apply pw_below_drewN | apply below_drew1) | exact HB.out)) hb); clear HB; have HB := n0_; clear n0_ hb)
    go_ret
    exact ⟨rfl, HB.out⟩
  have hp := padB_len a0.size (by omega) (by omega)
  have hpf := pad_f 0 (a0.size : Int) (by omega) (by omega)
  obtain ⟨K, hK⟩ : ∃ K, (a0 ++ padB a0.size).size = 64 * K := ⟨(a0 ++ padB a0.size).size / 64, by rw [ByteArray.size_append]; omega⟩
  have hsum := blocks_sum a0 (by omega) K hK
  have hsha := sha_Sum_all a0 (by omega)
  generalize padB (a0.size : Int) = pad at hp hpf hK hsum
  have hK2 := hK
  rw [ByteArray.size_append] at hK2
  have HPF := Aside0.mk hpf
  have hz : a0.size + pad.size ≤ 9223372036854775807 := by omega
  clear hpf
  go_enter Try.func7, Try.ntmps7
  go_wp2_with fail
  have HSUM := Aside0.mk hsum
  have HK := Aside0.mk hK
  have HK2 := Aside0.mk hK2
  have HSHA := Aside0.mk hsha
  clear hsum hK hK2 hsha
  refine (sha_Pad.calls (0 + 11) _ pad _ HPF.out).mono ?_
  rintro e W1 ⟨rfl, hb⟩
  have HB1 := Aside0.mk (below_step HB.out hb)
  clear hb HB
  go_wp2_with fail
  have hts : (a0 ++ pad).size ≤ 2072 := by rw [ByteArray.size_append]; omega
  generalize a0 ++ pad = t at HK HSUM hts ⊢
  have htm : Int.tmod (t.size : Int) 64 = 0 := by
    rw [Int.tmod_eq_emod_of_nonneg (by omega)]
    have := HK.out
    omega
  have hb3 : (Int.tmod (t.size : Int) 64 != 0) = false := by rw [htm]; rfl
  have hb4 : ((t.size : Int) % 64 != 0) = false := by have := HK.out; simp; omega
  clear htm hp hz HPF HK2
  refine (mosaiclaw01_awake.calls true _ HA.out).mono ?_
  rintro e W2 ⟨rfl, hb⟩
  have HB2 := Aside0.mk (below_step HB1.out hb)
  clear hb HB1
  go_wp2_with fail
  refine (start_calls W2).mono ?_
  rintro e W3 ⟨rfl, hb⟩
  have HB3 := Aside0.mk (below_step HB2.out hb)
  have hs8' := blk_size8 (x := startS) rfl
  have ho8 := blk_one startS
  have hz8 : ((List.replicate 8 (0 : Int)).map (Value.int .u32)).toArray.size = (startS.map (Value.int .u32)).toArray.size := rfl
  have hblk := Aside0.mk (Blk.new W3 W3.heap.size 28 (List.replicate 8 0) _ rfl rfl)
  clear hb HB2
  go_wp2_with (first
    | (refine wpList_store_row rfl 28 (.tmp 4) (.tmp 28) rfl W3.heap.size (startS.map (Value.int .u32)).toArray rfl rfl 28 _ hblk.out.out hs8' hz8 ho8 ?_; refine gen_world (fun W => StB w W W3.heap.size startS) ⟨hblk.out.row _, rfl, below_row (below_alloc HB3.out _) HB3.out.size _, HB3.out.size⟩ ?_; rintro W4 hst4; have HST := Aside0.mk hst4; clear hst4)
    | fail)
  clear HB3 hblk hs8' ho8 hz8
  generalize W3.heap.size = g at HST ⊢
  go_loopg [5] K (fun gg v5 wr => ∃ (i : Nat) (st : List Int), v5 = .int .i64 i ∧ Aside0 (i + 64 * gg = t.size) ∧ Aside0 (blocks K startS (bytesOf t) = blocks gg st ((bytesOf t).drop i)) ∧ Aside0 (StB w wr g st))
  case atStart => exact ⟨0, startS, rfl, ⟨by have := HK.out; omega⟩, ⟨by rw [List.drop_zero]⟩, HST⟩
  case round =>
    clear HST hb3 hb4
    obtain ⟨i, st, rfl, HG, HI, HT⟩ := hrel
    by_cases hlt : (i : Int) + 64 ≤ (t.size : Int)
    · obtain ⟨gg, rfl⟩ : ∃ m, gk = m + 1 := ⟨gk - 1, by have := HG.out; omega⟩
      obtain ⟨x0, x1, x2, x3, x4, x5, x6, x7, rfl⟩ := list8 st HT.out.len
      have d0 : wr.cell? ⟨g, 0, none⟩ = some (.int .u32 x0) := HT.out.blk.at 0 (by simp)
      have d1 : wr.cell? ⟨g, 1, none⟩ = some (.int .u32 x1) := HT.out.blk.at 1 (by simp)
      have d2 : wr.cell? ⟨g, 2, none⟩ = some (.int .u32 x2) := HT.out.blk.at 2 (by simp)
      have d3 : wr.cell? ⟨g, 3, none⟩ = some (.int .u32 x3) := HT.out.blk.at 3 (by simp)
      have d4 : wr.cell? ⟨g, 4, none⟩ = some (.int .u32 x4) := HT.out.blk.at 4 (by simp)
      have d5 : wr.cell? ⟨g, 5, none⟩ = some (.int .u32 x5) := HT.out.blk.at 5 (by simp)
      have d6 : wr.cell? ⟨g, 6, none⟩ = some (.int .u32 x6) := HT.out.blk.at 6 (by simp)
      have d7 : wr.cell? ⟨g, 7, none⟩ = some (.int .u32 x7) := HT.out.blk.at 7 (by simp)
      obtain ⟨sb, hsb⟩ : ∃ sb, sb = t.extract i (i + 64) := ⟨_, rfl⟩
      have hsz : sb.size = 64 := by rw [hsb, ByteArray.size_extract]; omega
      have hby : bytesOf sb = ((bytesOf t).drop i).take 64 := by rw [hsb, bytesOf_extract, Nat.add_sub_cancel_left]
      have hmx := fun (W : World) => mixX_calls [x0, x1, x2, x3, x4, x5, x6, x7] rfl sb hsz W
      have hl := mixB_len [x0, x1, x2, x3, x4, x5, x6, x7] (bytesOf sb) rfl
      have hstep : blocks (gg + 1) [x0, x1, x2, x3, x4, x5, x6, x7] ((bytesOf t).drop i) = blocks gg (mixB [x0, x1, x2, x3, x4, x5, x6, x7] (bytesOf sb)) ((bytesOf t).drop (i + 64)) := by
        rw [blocks, if_pos (by rw [List.length_drop, bytesOf_length]; omega), hby, List.drop_drop]
      generalize mixB [x0, x1, x2, x3, x4, x5, x6, x7] (bytesOf sb) = y at hmx hl hstep
      obtain ⟨y0, y1, y2, y3, y4, y5, y6, y7, rfl⟩ := list8 y hl
      have HMX : Aside0 (∀ (W : World), Calls Try.prog 30 #[.agg #[.int .u32 x0, .int .u32 x1, .int .u32 x2, .int .u32 x3, .int .u32 x4, .int .u32 x5, .int .u32 x6, .int .u32 x7], .string (t.extract i (i + 64))] W fun e w' => e = .returned (.tuple #[.agg #[.int .u32 y0, .int .u32 y1, .int .u32 y2, .int .u32 y3, .int .u32 y4, .int .u32 y5, .int .u32 y6, .int .u32 y7], .int .i64 0]) ∧ Below W.heap.size W w') := ⟨hsb ▸ hmx⟩
      have HSTEP := Aside0.mk hstep
      have hlt2 : i + 64 ≤ t.size := by omega
      clear hmx hl hstep hby hsb hsz
      go_wp2
      go_cut [6, 7] from 36 to 45 (fun v6 v7 wc => ∃ g6, v6 = .pointer (some ⟨g6, 0, none⟩) ∧ v7 = .int .i64 0 ∧ Aside0 (StB w wc g [x0, x1, x2, x3, x4, x5, x6, x7]) ∧ Aside0 (Blk wc g6 28 [y0, y1, y2, y3, y4, y5, y6, y7]) ∧ Aside0 (w.heap.size ≤ g6))
      case first =>
        have hgl : g < wr.heap.size := blk_lt HT.out.blk.out
        have hgn : ¬ g = wr.heap.size := Nat.ne_of_lt hgl
        have hgn2 : ¬ wr.heap.size = g := fun e => hgn e.symm
        have wi : IntKind.i64.wrap ((i : Int) + 64) = (i : Int) + 64 := IntWalk.i64_in _ (by omega)
        have wi0 : (0 : Int) ≤ (i : Int) + 64 := by omega
        have wi1 : (i : Int) ≤ (i : Int) + 64 := by omega
        have wi2 : ((i : Int) + 64).toNat = i + 64 := by omega
        go_region_law (first | (refine goes_ Try.func30 (by kernel_rfl) rfl #[.agg #[.int .u32 x0, .int .u32 x1, .int .u32 x2, .int .u32 x3, .int .u32 x4, .int .u32 x5, .int .u32 x6, .int .u32 x7], .string (t.extract i (i + 64))] (by rfl) rfl rfl (by (try simp only [List.map_toArray, List.map_cons, List.map_nil]); first | done | rfl) ?_; refine (HMX.out _).mono ?_; rintro e W7 ⟨rfl, hb7⟩; refine ⟨_, rfl, ?_⟩; first
          | (have hx6 := Aside0.mk (((show Blk _ wr.heap.size 28 (List.replicate 8 0) from (Blk.new wr wr.heap.size 28 (List.replicate 8 0) _ rfl rfl).drew 1)).below hb7); have HT7 := Aside0.mk (((HT.out.below (below_alloc (Below.refl _ _) _)).below (Drawn0.below ⟨1, rfl⟩)).below hb7); have q0 := hx6.out.at 0 (by simp); have q1 := hx6.out.at 1 (by simp); have q2 := hx6.out.at 2 (by simp); have q3 := hx6.out.at 3 (by simp); have q4 := hx6.out.at 4 (by simp); have q5 := hx6.out.at 5 (by simp); have q6 := hx6.out.at 6 (by simp); have q7 := hx6.out.at 7 (by simp); have z0 := hx6.out.frozen 0; have z1 := hx6.out.frozen 1; have z2 := hx6.out.frozen 2; have z3 := hx6.out.frozen 3; have z4 := hx6.out.frozen 4; have z5 := hx6.out.frozen 5; have z6 := hx6.out.frozen 6; have z7 := hx6.out.frozen 7)
          | (have HT7 := Aside0.mk ((HT.out.below (Drawn0.below ⟨1, rfl⟩)).below hb7))))
        all_goals
          go_wp2_with fail
          go_meet
          case rel => first
            | (have hx6' := hx6; exact ⟨wr.heap.size, rfl, rfl, ⟨((((((((HT7.out.far hgn HT.out.bel.size 0 _).far hgn HT.out.bel.size 1 _).far hgn HT.out.bel.size 2 _).far hgn HT.out.bel.size 3 _).far hgn HT.out.bel.size 4 _).far hgn HT.out.bel.size 5 _).far hgn HT.out.bel.size 6 _).far hgn HT.out.bel.size 7 _)⟩, ⟨((((((((hx6'.out.set 0 y0).set 1 y1).set 2 y2).set 3 y3).set 4 y4).set 5 y5).set 6 y6).set 7 y7)⟩, ⟨HT.out.bel.size⟩⟩)
            | exact ⟨W7.heap.size, rfl, rfl, ⟨HT7.out.below (below_alloc (Below.refl _ _) _)⟩, ⟨Blk.new W7 _ _ [y0, y1, y2, y3, y4, y5, y6, y7] _ rfl rfl⟩, ⟨HT7.out.bel.size⟩⟩
      case rest =>
        obtain ⟨g6, rfl, rfl, HT, HX, HG6⟩ := hcut
        have hs8' := blk_size8 (x := [y0, y1, y2, y3, y4, y5, y6, y7]) rfl
        have ho8 := blk_one [y0, y1, y2, y3, y4, y5, y6, y7]
        have hz8 : (([x0, x1, x2, x3, x4, x5, x6, x7] : List Int).map (Value.int .u32)).toArray.size = (([y0, y1, y2, y3, y4, y5, y6, y7] : List Int).map (Value.int .u32)).toArray.size := rfl
        clear d0 d1 d2 d3 d4 d5 d6 d7 HMX
        go_wp2_with (first
          | (refine wpList_load_row rfl 28 (.tmp 6) rfl g6 rfl 28 _ (0, 0) _ HX.out.out Try.underlying28 rfl hs8' ?_)
          | (refine wpList_store_row rfl 28 (.tmp 4) (.tmp 48) rfl g (([y0, y1, y2, y3, y4, y5, y6, y7] : List Int).map (Value.int .u32)).toArray rfl rfl 28 _ HT.out.blk.out hs8' hz8 ho8 ?_; refine gen_world (fun W => StB w W g [y0, y1, y2, y3, y4, y5, y6, y7]) (HT.out.row [y0, y1, y2, y3, y4, y5, y6, y7] rfl) ?_; rintro W9 hst9; have HT9 := Aside0.mk hst9; clear hst9))
        go_roundg gg
        case measure => omega
        case rel => exact ⟨i + 64, [y0, y1, y2, y3, y4, y5, y6, y7], by go_num, ⟨by have := HG.out; omega⟩, ⟨by rw [HI.out, HSTEP.out]⟩, HT9⟩
    · obtain rfl : gk = 0 := by have := HG.out; omega
      have hsum := HSUM.out
      rw [HI.out, blocks] at hsum
      have h8 := HT.out.len
      have HSUM2 := Aside0.mk hsum
      have hil : (i : Int) ≤ 2072 := by have := HG.out; omega
      have hd1 : decide ((i : Int) + 64 ≤ (t.size : Int)) = false := decide_eq_false hlt
      have hd2 : decide (i + 64 ≤ t.size) = false := decide_eq_false (by omega)
      have hd3 : (t.size : Int) < (i : Int) + 64 := by omega
      clear hsum HSUM HI HG
      go_wp2
      go_loopg [8, 9] 8 (fun gg v8 v9 wr => ∃ (j : Nat) (acc : List Int), v8 = .string (strOfNums acc) ∧ v9 = .int .i64 j ∧ Aside0 (j + gg = 8) ∧ Aside0 (acc.length = 4 * j) ∧ Aside0 (shaSum a0 = strOfNums (acc ++ outB (st.drop j))) ∧ Aside0 (StB w wr g st))
      case atStart => exact ⟨0, [], rfl, rfl, ⟨rfl⟩, ⟨rfl⟩, ⟨by rw [HSUM2.out]; rfl⟩, HT⟩
      case round =>
        clear HSUM2 HT
        obtain ⟨j, acc, rfl, rfl, HJ, HL, HS, HT⟩ := hrel
        by_cases hj : (j : Int) < 8
        · obtain ⟨g3, rfl⟩ : ∃ m, gk = m + 1 := ⟨gk - 1, by have := HJ.out; omega⟩
          have hc := HT.out.blk.at j (by omega)
          have hstep := outB_step st j (by omega)
          generalize st.getD j 0 = x at hc hstep
          have HSTEP := Aside0.mk hstep
          clear hstep
          have hsz : (strOfNums acc).size + (strOfNums [x / 16777216 % 256, x / 65536 % 256, x / 256 % 256, x % 256]).size ≤ 9223372036854775807 := by have := HL.out; rw [strOfNums_size, strOfNums_size]; simp; omega
          go_wp2_with (first
            | ((with_reducible refine gate_dst (N := 68) rfl ?_); refine Kd.R_lit (Kd.int .u8) w.heap.size 5 ?hg (N := 68) ?hd (xs := [x / 16777216 % 256, x / 65536 % 256, x / 256 % 256, x % 256]) (inner := [.int .u8 (x / 16777216 % 256), .int .u8 (x / 65536 % 256), .int .u8 (x / 256 % 256), .int .u8 (x % 256)]) (ok := fun _ => True) (okp := fun _ => True) ?hr ?hp (fun _ hk => hk) trivial HT.out.bel HT.out.bel.size (by simp) ?_; (case hd => rfl); (case hg => rfl); (case hr => first | (go_simp; done) | (go_simp; rfl)); (case hp => exact (Reps.one (show Kd.M (Kd.int .u8) _ _ _ (x / 16777216 % 256) [.int .u8 (x / 16777216 % 256)] from rfl) (Reps.one (show Kd.M (Kd.int .u8) _ _ _ (x / 65536 % 256) [.int .u8 (x / 65536 % 256)] from rfl) (Reps.one (show Kd.M (Kd.int .u8) _ _ _ (x / 256 % 256) [.int .u8 (x / 256 % 256)] from rfl) (Reps.one (show Kd.M (Kd.int .u8) _ _ _ (x % 256) [.int .u8 (x % 256)] from rfl) (Reps.none _ _)))))); intro v1 w1 ho1 hb1 hg1 hn1; have hcv := own_string (P := Try.prog) Try.underlying47 Try.underlying5 Try.underlying9 (Kd.own_of_R ho1); have HT1 := Aside0.mk (show StB w w1 g st from ⟨⟨blk_grown HT.out.blk.out hg1 (by simp)⟩, HT.out.len, hb1, HT.out.ge⟩); clear hb1 hg1 hn1 HT; obtain ⟨A1, c1, e1⟩ := Kd.R_slice ho1; rw [show ([x / 16777216 % 256, x / 65536 % 256, x / 256 % 256, x % 256] : List Int).length = 4 from rfl] at e1; subst e1; clear ho1)
            | fail)
          go_roundg g3
          case measure => omega
          case rel => exact ⟨j + 1, acc ++ [x / 16777216 % 256, x / 65536 % 256, x / 256 % 256, x % 256], by rw [strOfNums_append], by go_num, ⟨by have := HJ.out; omega⟩, ⟨by have := HL.out; simp; omega⟩, ⟨by rw [HS.out, HSTEP.out, List.append_assoc]⟩, HT1⟩
        · have hs := HS.out
          rw [List.drop_eq_nil_of_le (by have := HJ.out; omega), show outB [] = [] from rfl, List.append_nil] at hs
          have hsha := HSHA.out
          rw [hs] at hsha
          generalize strOfNums acc = z at hsha ⊢
          have HSH := Aside0.mk hsha
          clear hs hsha HS HSHA
          go_wp2_with fail
          refine (HSH.out _).mono ?_
          rintro e W9 ⟨rfl, hb⟩
          have HT9 := Aside0.mk (HT.out.below hb)
          clear hb
          go_wp2_with fail
          go_ret
          exact ⟨rfl, HT9.out.bel⟩
end Go.Proofs.Ytelcaepenfjloaa.Print
