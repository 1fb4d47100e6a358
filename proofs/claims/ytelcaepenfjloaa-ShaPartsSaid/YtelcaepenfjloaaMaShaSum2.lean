/- sha.Hash: New, Sum; sha.Sum. -/
-- ROOT mosaic/sha.Sum
import Derived.Test.YtelcaepenfjloaaPrK
import Derived.Test.YtelcaepenfjloaaMaSha
import Derived.Test.YtelcaepenfjloaaMaShaMix
import Derived.Test.YtelcaepenfjloaaMaShaSum
import Derived.Test.YtelcaepenfjloaaPr28
import Derived.StillTailTactics
import Derived.Deep.QuietTactic
import Derived.BigQuiet
import Derived.IntWalk
import Derived.Deep.RegionLaw
namespace Go.Proofs.Ytelcaepenfjloaa.Print
open Go.RowKit Go.Proofs.YtelcaepenfjloaaW.PrintWords Go.Proofs.YtelcaepenfjloaaW.PrintLast Go.Proofs.YtelcaepenfjloaaW.PrintMore
set_option linter.unusedVariables false
set_option linter.unusedSimpArgs false

theorem cell_rowfar {W : World} {g : Nat} {cs : Array Value} {a : Addr} (h : a.block ≠ g) : (W.setRow g cs).cell? a = W.cell? a := by
  have : (W.setRow g cs).heap[a.block]? = W.heap[a.block]? := by simp [World.setRow, Array.getElem?_modify, Ne.symm h]
  simp [World.cell?, this]
theorem C_rowfar {w : World} {g n : Nat} {A : Option Addr} {xs : List Int} (h : Kd.C (Kd.int .u8) w A n xs) (hf : ∀ ad, A = some ad → ad.block ≠ g) (cs : Array Value) : Kd.C (Kd.int .u8) (w.setRow g cs) A n xs :=
  ⟨h.1, h.2.1, fun hn => by
    obtain ⟨ad, e, hc⟩ := h.2.2 hn
    exact ⟨ad, e, fun j p hp => by
      obtain ⟨c, h1, h2, h3⟩ := hc j p hp
      exact ⟨c, h1, h2, fun i u hu => by rw [cell_rowfar (by rw [add_block]; exact hf ad e)]; exact h3 i u hu⟩⟩⟩
theorem startS_len : startS.length = 8 := rfl
/-- A new sum. -/
theorem new_calls (w : World) : Calls Try.prog 36 #[] w fun e w' => ∃ g, e = .returned (.pointer (some ⟨g, 0, none⟩)) ∧ Below w.heap.size w w' ∧ g < w'.heap.size ∧ HashW w.heap.size w' g startS (.slice none 0 0) [] 0 := by
  have hc : (startS.map (Value.int .u32)).toArray = #[.int .u32 1779033703, .int .u32 3144134277, .int .u32 1013904242, .int .u32 2773480762, .int .u32 1359893119, .int .u32 2600822924, .int .u32 528734635, .int .u32 1541459225] := rfl
  have hs := start_calls
  rw [hc] at hs
  have HS := Aside0.mk hs
  clear hs hc
  go_enter Try.func36, Try.ntmps36
  go_wp2_with (go_at_call 34; refine (HS.out _).mono ?_; rintro e w1 ⟨rfl, hb1⟩)
  go_ret
  exact ⟨w1.heap.size, rfl, below_alloc hb1 _, by simp, ⟨heap_alloc_new _ _, rfl, Kd.R_nil _ _ _ _ _, hb1.size⟩⟩

def blocks : Nat → List Int → List Int → List Int
  | 0, st, _ => st
  | k + 1, st, rest => if 0 < rest.length then blocks k (mixB st (rest.take 64)) (rest.drop 64) else st
def outB (st : List Int) : List Int := st.flatMap fun x => [x / 16777216 % 256, x / 65536 % 256, x / 256 % 256, x % 256]

theorem index8 (x0 x1 x2 x3 x4 x5 x6 x7 : Int) (t : Nat) (ht : t < 8) (W : World) : (Instr.index 28 (.agg #[.int .u32 x0, .int .u32 x1, .int .u32 x2, .int .u32 x3, .int .u32 x4, .int .u32 x5, .int .u32 x6, .int .u32 x7]) (.int .i64 (t : Int))).run Try.prog W = .ok (.int .u32 ([x0, x1, x2, x3, x4, x5, x6, x7].getD t 0)) W := by
  rcases (by omega : t = 0 ∨ t = 1 ∨ t = 2 ∨ t = 3 ∨ t = 4 ∨ t = 5 ∨ t = 6 ∨ t = 7) with rfl | rfl | rfl | rfl | rfl | rfl | rfl | rfl <;> kernel_rfl
theorem outB_step (l : List Int) (t : Nat) (h : t < l.length) : outB (l.drop t) = [l.getD t 0 / 16777216 % 256, l.getD t 0 / 65536 % 256, l.getD t 0 / 256 % 256, l.getD t 0 % 256] ++ outB (l.drop (t + 1)) := by
  unfold outB
  rw [List.drop_eq_getElem_cons h, List.flatMap_cons, List.getD_eq_getElem?_getD, List.getElem?_eq_getElem h]
  rfl

set_option maxHeartbeats 800000 in
set_option maxRecDepth 100000 in
theorem hashSum_calls (B g k : Nat) (st pt : List Int) (v : Value) (n : Int) (pad : ByteArray) (w : World) (h : HashW B w g st v pt n) (hB : B ≤ w.heap.size) (hp : pt.length < 64) (hn : sha_Pad.f k n = some pad) (hpad : pad.size ≤ 72) (hall : (pt.length + pad.size) % 64 = 0) :
    Calls Try.prog 39 #[.pointer (some ⟨g, 0, none⟩)] w fun e w' => e = .returned (.string (strOfNums (outB (blocks 3 st (pt ++ bytesOf pad))))) ∧ Below w.heap.size w w' := by
  obtain ⟨res, hres⟩ : ∃ res, res = strOfNums (outB (blocks 3 st (pt ++ bytesOf pad))) := ⟨_, rfl⟩
  rw [← hres]
  have hs8 := blk_size8 h.len
  have ho8 := blk_one st
  have hz8 : ((List.replicate 8 (0 : Int)).map (Value.int .u32)).toArray.size = (st.map (Value.int .u32)).toArray.size := blk_same (by simp [h.len])
  obtain ⟨x0, x1, x2, x3, x4, x5, x6, x7, rfl⟩ := list8 st h.len
  have HRES := Aside0.mk hres
  have HB := Aside0.mk hB
  have HP := Aside0.mk hp
  have HN := Aside0.mk hn
  have HPAD := Aside0.mk hpad
  have HALL := Aside0.mk hall
  obtain ⟨c0, c1, c2, c3, c4, c5, c6, c7⟩ := h.cells
  have H := Aside0.mk h
  clear hres hB hp h hn hpad hall
  go_enter Try.func39, Try.ntmps39
  go_wp2_with (refine wpList_store_row rfl 28 (.tmp 3) (.tmp 13) rfl w.heap.size (List.map (Value.int .u32) [x0, x1, x2, x3, x4, x5, x6, x7]).toArray rfl rfl 28 _ ?hg hs8 hz8 ho8 ?_; (case hg => exact (Blk.new w _ _ (List.replicate 8 0) _ rfl rfl).out); refine gen_world (fun W => HashW B W g [x0, x1, x2, x3, x4, x5, x6, x7] v pt n ∧ Blk W w.heap.size 28 [x0, x1, x2, x3, x4, x5, x6, x7] ∧ Below w.heap.size w W) ⟨H.out.below (below_row (below_alloc (Below.refl _ _) _) (Nat.le_refl _) _), (Blk.new w _ _ (List.replicate 8 0) _ rfl rfl).row _, below_row (below_alloc (Below.refl _ _) _) (Nat.le_refl _) _⟩ ?_; rintro W3 ⟨h3, hb3, hl3⟩; have H3 := Aside0.mk h3; have HB3 := Aside0.mk hb3; have HL3 := Aside0.mk hl3; clear h3 hb3 hl3)
  obtain ⟨A, c, hv⟩ := Kd.R_slice H3.out.own
  subst hv
  have k8 := H3.out.part
  have k9 := H3.out.num
  have hg3 := blk_lt H3.out.blk
  have hgw : g ≠ W3.heap.size := by omega
  have h5 : HashW B ((W3.alloc (.cells #[] 5)).drew) g [x0, x1, x2, x3, x4, x5, x6, x7] (.slice A pt.length c) pt n := (H3.out.below (below_alloc (Below.refl _ _) _)).drew
  have b5 : Below w.heap.size w ((W3.alloc (.cells #[] 5)).drew) := (below_alloc HL3.out _).drew
  have r5 : Kd.R (Kd.int .u8) 5 ((W3.alloc (.cells #[] 5)).drew) w.heap.size (fun _ => True) (.slice (some ⟨W3.heap.size, 0, none⟩) 0 0) [] := Kd.R_drew ⟨fun _ _ => trivial, [], World.ownsRow_lit (base := w.heap.size) (e := 5) (size := 1) W3 #[] 0 HL3.out.size (by decide) rfl, Reps.none _ _⟩
  have k8a := h5.part
  have k9a := h5.num
  have H5 := Aside0.mk h5
  have B5 := Aside0.mk b5
  have R5 := Aside0.mk r5
  clear h5 b5 r5
  (try simp only [Act.put, List.setIfInBounds_toArray, List.set_cons_zero, List.set_cons_succ])
  go_cut [4] (fun v4 wc => Aside0 (Kd.R (Kd.int .u8) 5 wc w.heap.size (fun _ => True) v4 (pt ++ bytesOf pad)) ∧ Aside0 (Blk wc w.heap.size 28 [x0, x1, x2, x3, x4, x5, x6, x7]) ∧ Aside0 (Below w.heap.size w wc))
  case rest =>
    obtain ⟨HR, HBk, HBl⟩ := hcut
    obtain ⟨A0, c0, hv⟩ := Kd.R_slice HR.out
    subst hv
    have hfar : ∀ ad, A0 = some ad → ad.block ≠ w.heap.size := fun ad he => by
      have := Kd.R_ne HR.out HBk.out.out (by decide)
      subst he
      intro hb
      exact this (by rw [← hb]; rfl)
    have HF := Aside0.mk hfar
    have HRD := Aside0.mk (Kd.R_reads' HR.out).2
    clear hfar HR
    obtain ⟨full, hfull⟩ : ∃ l, l = pt ++ bytesOf pad := ⟨_, rfl⟩
    rw [← hfull] at HRD HRES
    rw [← hfull]
    have hfl : full.length % 64 = 0 ∧ full.length ≤ 64 * 2 := by
      rw [hfull, List.length_append, bytesOf_length]
      have := HALL.out
      have := HP.out
      have := HPAD.out
      omega
    clear hfull
    have HFL := Aside0.mk hfl
    clear hfl
    go_wp2
    go_loopg [4] 3 (fun gg v4 wr => ∃ (A : Option Addr) (cc : Nat) (st rest : List Int), v4 = .slice A rest.length cc ∧ Aside0 (rest.length % 64 = 0 ∧ rest.length + 64 ≤ 64 * gg) ∧ Aside0 (rest.length ≤ cc) ∧ Aside0 (∀ ad, A = some ad → ad.block ≠ w.heap.size) ∧ Aside0 (Kd.C (Kd.int .u8) wr A rest.length rest) ∧ Aside0 (st.length = 8) ∧ Aside0 (res = strOfNums (outB (blocks gg st rest))) ∧ Aside0 (Blk wr w.heap.size 28 st) ∧ Aside0 (Below w.heap.size w wr))
    case atStart => exact ⟨A0, c0, _, full, rfl, ⟨by have := HFL.out; omega⟩, ⟨HRD.out.1⟩, HF, ⟨HRD.out.2⟩, ⟨rfl⟩, HRES, HBk, HBl⟩
    case round =>
      clear HRES HBk HBl HRD HF HFL H3 HB3 HL3 H5 B5 R5 H k8 k9 k8a k9a hg3 hgw
      obtain ⟨A1, cc, st, rest, rfl, HL, HCc, HF, HRD, H8, HA, HBk, HBl⟩ := hrel
      by_cases hpos : 0 < rest.length
      · obtain ⟨k1, rfl⟩ : ∃ m, gk = m + 1 := ⟨gk - 1, by have := HL.out; omega⟩
        have hz : 0 < (rest.length : Int) := by omega
        have h64 : 64 ≤ rest.length := by have := HL.out; omega
        have hc64 : (64 : Int) ≤ (cc : Int) := by have := HCc.out; omega
        have hbl : blocks (k1 + 1) st rest = blocks k1 (mixB st (rest.take 64)) (rest.drop 64) := by rw [blocks, if_pos hpos]
        have htl : (rest.take 64).length = 64 := by rw [List.length_take]; omega
        have hct : Kd.C (Kd.int .u8) wr A1 64 (rest.take 64) := by
          have := Kd.C_take HRD.out h64
          rw [htl] at this
          exact this
        have hmc := fun (W : World) (hR : Kd.C (Kd.int .u8) W A1 (rest.take 64).length (rest.take 64)) => mix_calls st A1 cc (rest.take 64) W H8.out hR (by rw [htl]; omega) (Nat.le_of_eq htl.symm) (by rw [htl]; decide)
        rw [htl] at hmc
        have hl := mixB_len st (rest.take 64) H8.out
        generalize hmb : mixB st (rest.take 64) = yy at hmc hl hbl
        obtain ⟨y0, y1, y2, y3, y4, y5, y6, y7, rfl⟩ := list8 yy hl
        obtain ⟨z0, z1, z2, z3, z4, z5, z6, z7, hz8'⟩ := list8 st H8.out
        subst hz8'
        have HMC : Aside0 (∀ (W : World), Kd.C (Kd.int .u8) W A1 64 (rest.take 64) → Calls Try.prog 83 #[.agg #[.int .u32 z0, .int .u32 z1, .int .u32 z2, .int .u32 z3, .int .u32 z4, .int .u32 z5, .int .u32 z6, .int .u32 z7], .slice A1 64 cc] W fun e w' => e = .returned (.agg #[.int .u32 y0, .int .u32 y1, .int .u32 y2, .int .u32 y3, .int .u32 y4, .int .u32 y5, .int .u32 y6, .int .u32 y7]) ∧ Below W.heap.size W w') := ⟨hmc⟩
        have HBL := Aside0.mk hbl
        have HCT := Aside0.mk hct
        clear hmc hl hmb hbl hct htl
        have d0 : wr.cell? ⟨w.heap.size, 0, none⟩ = some (.int .u32 z0) := HBk.out.at 0 (by simp)
        have d1 : wr.cell? ⟨w.heap.size, 1, none⟩ = some (.int .u32 z1) := HBk.out.at 1 (by simp)
        have d2 : wr.cell? ⟨w.heap.size, 2, none⟩ = some (.int .u32 z2) := HBk.out.at 2 (by simp)
        have d3 : wr.cell? ⟨w.heap.size, 3, none⟩ = some (.int .u32 z3) := HBk.out.at 3 (by simp)
        have d4 : wr.cell? ⟨w.heap.size, 4, none⟩ = some (.int .u32 z4) := HBk.out.at 4 (by simp)
        have d5 : wr.cell? ⟨w.heap.size, 5, none⟩ = some (.int .u32 z5) := HBk.out.at 5 (by simp)
        have d6 : wr.cell? ⟨w.heap.size, 6, none⟩ = some (.int .u32 z6) := HBk.out.at 6 (by simp)
        have d7 : wr.cell? ⟨w.heap.size, 7, none⟩ = some (.int .u32 z7) := HBk.out.at 7 (by simp)
        go_wp2
        refine wp_region_still_tail 3 (by kernel_rfl) (by kernel_rfl) ?_
        change wpStill _ _ wr.drew (fun a' => wpList _ _ _ _ a' wr.drew) _ _
        replace d0 : wr.drew.cell? ⟨w.heap.size, 0, none⟩ = some (.int .u32 z0) := d0
        replace d1 : wr.drew.cell? ⟨w.heap.size, 1, none⟩ = some (.int .u32 z1) := d1
        replace d2 : wr.drew.cell? ⟨w.heap.size, 2, none⟩ = some (.int .u32 z2) := d2
        replace d3 : wr.drew.cell? ⟨w.heap.size, 3, none⟩ = some (.int .u32 z3) := d3
        replace d4 : wr.drew.cell? ⟨w.heap.size, 4, none⟩ = some (.int .u32 z4) := d4
        replace d5 : wr.drew.cell? ⟨w.heap.size, 5, none⟩ = some (.int .u32 z5) := d5
        replace d6 : wr.drew.cell? ⟨w.heap.size, 6, none⟩ = some (.int .u32 z6) := d6
        replace d7 : wr.drew.cell? ⟨w.heap.size, 7, none⟩ = some (.int .u32 z7) := d7
        have HB6 := Aside0.mk (HBk.out.drew 1)
        have HL6 := Aside0.mk (HBl.out.drew)
        have HCT6 := Aside0.mk (Kd.C_drew HCT.out)
        have HRD6 := Aside0.mk (Kd.C_drew HRD.out)
        replace HB6 : Aside0 (Blk wr.drew w.heap.size 28 [z0, z1, z2, z3, z4, z5, z6, z7]) := HB6
        clear HBk HBl HCT HRD
        generalize wr.drew = w6 at d0 d1 d2 d3 d4 d5 d6 d7 HB6 HL6 HCT6 HRD6 ⊢
        simp only [List.take_succ_cons, List.take_zero, List.drop_succ_cons, List.drop_zero]
        repeat still_step
        refine wpStill_nil ?_
        clear d0 d1 d2 d3 d4 d5 d6 d7
        rcases Classical.em (cc = 64) with rfl | hcc
        all_goals go_wp2_with (first
          | (go_at_call 83; refine (HMC.out _ HCT6.out).mono ?_; rintro e w9 ⟨rfl, hb9⟩)
          | (refine wpList_store_row rfl 28 (.tmp 3) (.tmp 34) rfl w.heap.size (List.map (Value.int .u32) [y0, y1, y2, y3, y4, y5, y6, y7]).toArray rfl rfl 28 _ (HB6.out.below hb9).out (blk_size8 rfl) (blk_same rfl) (blk_one _) ?_; refine gen_world (fun W => Blk W w.heap.size 28 [y0, y1, y2, y3, y4, y5, y6, y7] ∧ Below w.heap.size w W ∧ Kd.C (Kd.int .u8) W A1 rest.length rest) ⟨(HB6.out.below hb9).row _, below_row (below_then HL6.out HL6.out.size hb9) (Nat.le_refl _) _, C_rowfar (Kd.C_below HRD6.out hb9) HF.out _⟩ ?_; rintro W10 ⟨h10, l10, r10⟩; have HB10 := Aside0.mk h10; have HL10 := Aside0.mk l10; have HR10 := Aside0.mk r10; clear h10 l10 r10 hb9))
        · have hcd := Kd.C_drop HR10.out h64 HCc.out
          rw [if_pos rfl] at hcd
          go_roundg k1
          case measure => omega
          case rel => exact ⟨A1, 0, [y0, y1, y2, y3, y4, y5, y6, y7], rest.drop 64, by rw [List.length_drop], ⟨by have := HL.out; rw [List.length_drop]; omega⟩, ⟨by have := HCc.out; rw [List.length_drop]; omega⟩, HF, ⟨hcd⟩, ⟨rfl⟩, ⟨by rw [HA.out, HBL.out]⟩, HB10, HL10⟩
        · have hcd := Kd.C_drop HR10.out h64 HCc.out
          rw [if_neg hcc] at hcd
          go_roundg k1
          case measure => omega
          case rel => exact ⟨_, cc - 64, [y0, y1, y2, y3, y4, y5, y6, y7], rest.drop 64, by rw [List.length_drop]; rfl, ⟨by have := HL.out; rw [List.length_drop]; omega⟩, ⟨by have := HCc.out; rw [List.length_drop]; omega⟩, ⟨fun ad he => by
            cases A1 with
            | none => simp at he
            | some a1 =>
              have := HF.out a1 rfl
              simp at he
              rw [← he]
              exact this⟩, ⟨hcd⟩, ⟨rfl⟩, ⟨by rw [HA.out, HBL.out]⟩, HB10, HL10⟩
      · have hpz : ¬ 0 < (rest.length : Int) := by omega
        have hr0 : blocks gk st rest = st := by
          cases gk with
          | zero => rfl
          | succ k => rw [blocks, if_neg hpos]
        have ha2 : res = strOfNums (outB st) := by rw [HA.out, hr0]
        have hs := blk_size8 H8.out
        obtain ⟨z0, z1, z2, z3, z4, z5, z6, z7, hz⟩ := list8 st H8.out
        subst hz
        have HA2 := Aside0.mk ha2
        clear ha2 hr0 HA HRD HF HCc HL
        go_wp2_with (refine wpList_load_row rfl 28 (.tmp 3) rfl w.heap.size rfl 28 _ (0, 0) _ HBk.out.out Try.underlying28 rfl hs ?_)
        go_loopg [5, 7, 36] 8 (fun gg v5 _ v36 wr => ∃ (t : Nat) (acc : List Int), t + gg = 8 ∧ v36 = .int .i64 (t : Int) ∧ Aside0 (Kd.R (Kd.int .u8) 5 wr w.heap.size (fun _ => True) v5 acc) ∧ Aside0 (acc.length = 4 * t) ∧ Aside0 (res = strOfNums (acc ++ outB ([z0, z1, z2, z3, z4, z5, z6, z7].drop t))) ∧ Aside0 (Below w.heap.size w wr))
        case atStart => exact ⟨0, [], rfl, rfl, ⟨Kd.R_nil _ _ _ _ _⟩, ⟨rfl⟩, HA2, HBl⟩
        case round =>
          clear HA2 HBk HBl H8 hpz hpos
          obtain ⟨t, acc, ht, rfl, HO, HLn, HA, HB⟩ := hrel
          by_cases hlt : t < 8
          · obtain ⟨k2, rfl⟩ : ∃ m, gk = m + 1 := ⟨gk - 1, by omega⟩
            have hltz : (t : Int) < 8 := by omega
            have hix := fun (W : World) => index8 z0 z1 z2 z3 z4 z5 z6 z7 t hlt W
            have hdr := outB_step [z0, z1, z2, z3, z4, z5, z6, z7] t hlt
            generalize [z0, z1, z2, z3, z4, z5, z6, z7].getD t 0 = z at hix hdr
            have HD := Aside0.mk hdr
            clear hdr
            obtain ⟨Ao, co, eo⟩ := Kd.R_slice HO.out
            subst eo
            go_wp2_with (first
              | ((with_reducible refine gate_dst (N := 51) rfl ?_); refine Kd.R_lit (Kd.int .u8) _ 5 ?hg (N := 51) ?hd (xs := [z / 16777216 % 256, z / 65536 % 256, z / 256 % 256, z % 256]) (inner := [.int .u8 (z / 16777216 % 256), .int .u8 (z / 65536 % 256), .int .u8 (z / 256 % 256), .int .u8 (z % 256)]) (ok := fun _ => True) (okp := fun _ => True) ?hr ?hp (fun _ hk => hk) trivial (Below.refl _ _) (Nat.le_refl _) (by simp) ?_; (case hd => rfl); (case hg => rfl); (case hr => first | (go_simp; done) | (go_simp; rfl)); (case hp => exact (Reps.one (show Kd.M (Kd.int .u8) _ _ _ (z / 16777216 % 256) [.int .u8 (z / 16777216 % 256)] from rfl) (Reps.one (show Kd.M (Kd.int .u8) _ _ _ (z / 65536 % 256) [.int .u8 (z / 65536 % 256)] from rfl) (Reps.one (show Kd.M (Kd.int .u8) _ _ _ (z / 256 % 256) [.int .u8 (z / 256 % 256)] from rfl) (Reps.one (show Kd.M (Kd.int .u8) _ _ _ (z % 256) [.int .u8 (z % 256)] from rfl) (Reps.none _ _)))))); intro v1 w1 ho1 hb1 hg_ hnew_; clear hg_ hnew_; have n1_ := Aside0.mk (Kd.R_elder' HO.out (Kd.R_base ho1) hb1); have n2_ := Aside0.mk (Kd.R_lower (Kd.R_new' ho1 (Kd.R_lt HO.out)) (below_size HB.out)); have n3_ := Aside0.mk (below_step HB.out hb1); clear HO HB; have HO := n1_; have HO1 := n2_; have HB := n3_; clear n1_ n2_ n3_ hb1 ho1; obtain ⟨A1, c1, e1⟩ := Kd.R_slice HO1.out; subst e1)
              | ((with_reducible refine gate_builtin (b := .append) (xs := #[.tmp 39, .tmp 51]) rfl ?_); at_builtin; refine Kd.R_append_rows (Kd.int .u8) (w0 := w) w.heap.size rfl (.tmp 39) (.tmp 51) 47 5 (.int .u8 0) 1 rfl Try.underlying47 info5 rfl (by decide) (by omega) _ acc [z / 16777216 % 256, z / 65536 % 256, z / 256 % 256, z % 256] _ _ _ (fun k_ => some k_ ≠ (.slice A1 [z / 16777216 % 256, z / 65536 % 256, z / 256 % 256, z % 256].length c1 : Value).ownBlock) (fun _ => False) rfl rfl ?aO ?aR (fun _ _ h => h) (fun _ h => h.elim) ?aF ?aB ?aS ?aL ?_; (case aR => exact (Kd.R_reads' HO1.out).2.2); (case aB => exact HB.out); (case aF => exact (fun k_ hk => Kd.fresh' (Kd.R_lt HO1.out) k_ hk)); (case aO => exact Kd.R_mono HO.out (fun _ hk => hk.2)); (case aS => exact below_size HB.out); (case aL => have := HLn.out; simp; omega); intro v2 w2 ho2 hb2 hg2 hat2; have n1_ := Aside0.mk (Kd.R_mono ho2 (fun _ _ => trivial)); have n2_ := Aside0.mk hb2; clear HO HO1 HB; have HO := n1_; have HB := n2_; clear n1_ n2_ ho2 hb2 hg2 hat2))
            go_roundg k2
            case measure => omega
            case rel => exact ⟨t + 1, _, by omega, by go_num, HO, ⟨by have := HLn.out; simp; omega⟩, ⟨by rw [HA.out, HD.out, List.append_assoc]⟩, HB⟩
          · have hltz : ¬ (t : Int) < 8 := by omega
            have h8 : t = 8 := by omega
            subst h8
            obtain ⟨Ao, co, eo⟩ := Kd.R_slice HO.out
            subst eo
            have hcv := own_string (P := Try.prog) Try.underlying47 Try.underlying5 Try.underlying9 (Kd.own_of_R HO.out)
            have hres : strOfNums acc = res := by
              rw [HA.out, show outB ([z0, z1, z2, z3, z4, z5, z6, z7].drop 8) = [] from rfl, List.append_nil]
            rw [hres] at hcv
            clear hres
            go_wp2
            go_ret
            exact ⟨rfl, HB.out⟩
  go_region_law (first
    | (refine Kd.R_append_rows_step (Kd.int .u8) (w0 := w) w.heap.size (by rfl) (.tmp 14) (.tmp 18) 47 5 (.int .u8 0) 1 rfl Try.underlying47 info5 rfl (by decide) (by omega) (.slice (some ⟨W3.heap.size, 0, none⟩) 0 0) [] pt A pt.length c (fun _ => True) (fun _ => False) rfl rfl R5.out (Kd.R_reads' H5.out.own).2.2 (fun _ _ h => h) (fun _ h => h.elim) (fun _ _ => trivial) B5.out B5.out.size (by simp; have := HP.out; omega) ?_; intro v1 w4 ho4 hb4 hg4 hat4; have hw4 := blk_grown H5.out.blk hg4 (fun he => hgw (Option.some.inj he)); have k9b : w4.cell? ⟨g, 9, none⟩ = some (.int .i64 n) := by rw [blk_cell hw4]; rfl)
    | (refine goes_ Try.func28 (by kernel_rfl) rfl #[.int .i64 n] (by rfl) rfl rfl (by (try simp only [List.map_toArray, List.map_cons, List.map_nil]); first | done | rfl) ?_; refine (sha_Pad.calls k n pad _ HN.out).mono ?_; rintro e w6 ⟨rfl, hb6⟩; refine ⟨_, rfl, ?_⟩; have r6 := Aside0.mk (Kd.own_of_R (Kd.R_below ho4 hb6)); have b6 := Aside0.mk (below_then hb4 hb4.size hb6); have s6 := hb6.size)
    | (refine step_append_str (w0 := w) w.heap.size (by rfl) (.tmp 19) (.tmp 24) 47 9 5 rfl Try.underlying47 Try.underlying9 info5 v1 ([] ++ pt) pad rfl rfl r6.out b6.out b6.out.size (by have := HP.out; have := HPAD.out; simp; omega) ?_; intro v2 w7 ho7 hb7 hg7))
  all_goals
    (try go_simp)
    rename_i J_ K_ hJ_ hK_
    refine hK_ _ _ (Met.intro (hJ_ _ _ ?_))
    (repeat apply Exists.intro)
    refine ⟨?rel, rfl⟩
    case rel =>
      have l3 := blk_lt HB3.out.out
      have q4 := blk_grown (blk_below HB3.out.out (below_alloc (Below.refl _ _) (.cells #[] 5)).drew : ((W3.alloc (.cells #[] 5)).drew).heap[w.heap.size]? = _) hg4 (fun he => by have := Option.some.inj he; simp at this; omega)
      have q6 := blk_below q4 hb6
      have q7 := blk_grown q6 hg7 (own_ne r6.out q6 (by decide))
      exact ⟨⟨Kd.R_of_own ho7 (fun _ _ => trivial)⟩, ⟨⟨q7⟩⟩, ⟨hb7⟩⟩
end Go.Proofs.Ytelcaepenfjloaa.Print
