/- sha.Hex: bytes in hexadecimal digits (strings.Builder). -/
-- MANUAL mosaic/sha.Hex making plain
-- ROOT mosaic/sha.Hex
import Derived.Test.YtelcaepenfjloaaPrK
import Derived.Shelf.Strings.Builder1
import Derived.Lib.Builder
import Derived.IntWalk
namespace Go.Proofs.Ytelcaepenfjloaa.Print
open Go.RowKit Go.Proofs.YtelcaepenfjloaaW.PrintWords Go.Proofs.YtelcaepenfjloaaW.PrintLast Go.Proofs.YtelcaepenfjloaaW.PrintMore
open Go.Shelf
set_option linter.unusedVariables false
set_option linter.unusedSimpArgs false
def lays169_ren : Go.Shelf.Ren := ⟨fun | 169 => 90 | n => n, fun | 70 => 119 | 9 => 9 | 0 => 0 | 72 => 121 | 37 => 47 | 127 => 148 | 3 => 3 | 5 => 5 | n => n, fun | n => n⟩
theorem lays169 : Go.Proofs.Lays.n169 Try.prog lays169_ren := {
  mixed := by kernel_rfl
  f169 := Try.func90.trans (congrArg some (by kernel_rfl))
  t0 := Try.underlying0
  a0 := Try.isAgg0
  z0 := Try.sizeOf0
  v0 := Try.zeroValue0
  t3 := Try.underlying3
  a3 := Try.isAgg3
  z3 := Try.sizeOf3
  v3 := Try.zeroValue3
  t9 := Try.underlying9
  a9 := Try.isAgg9
  z9 := Try.sizeOf9
  v9 := Try.zeroValue9
  t37 := Try.underlying47
  a37 := Try.isAgg47
  z37 := Try.sizeOf47
  v37 := Try.zeroValue47
  t70 := Try.underlying119
  a70 := Try.isAgg119
  z70 := Try.sizeOf119
  v70 := Try.zeroValue119
  t72 := Try.underlying121
  a72 := Try.isAgg121
  z72 := Try.sizeOf121
  v72 := Try.zeroValue121
  t127 := Try.underlying148
  a127 := Try.isAgg148
  z127 := Try.sizeOf148
  v127 := Try.zeroValue148 }
theorem Builder_Extra_169 : Go.Proofs.Builder.Extra Try.prog lays169_ren := {
  sizeBuilder := by kernel_rfl
  liesBuilder := by kernel_rfl
  t5 := Try.underlying5
  a5 := Try.isAgg5
  z5 := Try.sizeOf5
  v5 := Try.zeroValue5
  infoByte := by kernel_rfl
  cellsByte := by kernel_rfl
  sizeByte := by kernel_rfl
  neB5 := by decide }

/-- What a builder that the call has made holds, handed back as a text. -/
theorem builderString_calls (B b : Nat) (l : List UInt8) (w : World) (h : Lib.IsBuilder 121 5 B b (Lib.byteCells l) w) (hBw : B ≤ w.heap.size) :
    Calls Try.prog 90 #[.pointer (some ⟨b, 0, none⟩)] w fun e w' => e = .returned (.string ⟨l.toArray⟩) ∧ Below B w w' := Go.Proofs.Any.Builder_String_any lays169 Builder_Extra_169 B b l w h hBw

theorem sizeBuilder_ : (Try.prog.info? 121).map (·.size) = some 2 := by kernel_rfl
theorem infoByte_ : (Try.prog.info? 5).map (fun i => (i.zero, i.size, i.bytes)) = some (some (.int .u8 0), 1, 1) := by kernel_rfl
set_option maxHeartbeats 1000000 in
set_option maxRecDepth 100000 in
theorem copyCheck_used (b : Nat) (w : World) (h0 : w.cell? ⟨b, 0, none⟩ = some (.pointer (some ⟨b, 0, none⟩))) :
    Calls Try.prog 116 #[.pointer (some ⟨b, 0, none⟩)] w fun e w' => e = .returned (.tuple #[]) ∧ w' = w := by
  obtain ⟨j, hj, _⟩ := Option.map_eq_some_iff.1 Builder_Extra_169.sizeBuilder
  go_enter Try.func116, Try.ntmps116
  go_wp2
  rw [Lib.run_neq_ptr_same w _ Try.underlying119 hj]
  go_wp2
  go_end0
  exact ⟨rfl, rfl⟩
set_option maxHeartbeats 1000000 in
set_option maxRecDepth 100000 in
theorem copyCheck_fresh (b : Nat) (w : World) (h0 : w.cell? ⟨b, 0, none⟩ = some (.pointer none)) (hsh : w.shape? b = some (121, 2)) (hfz : w.frozen? ⟨b, 0, none⟩ = false) :
    Calls Try.prog 116 #[.pointer (some ⟨b, 0, none⟩)] w fun e w' => e = .returned (.tuple #[]) ∧ w' = w.setCell ⟨b, 0, none⟩ (.pointer (some ⟨b, 0, none⟩)) := by
  obtain ⟨j, hj, hjs⟩ := Option.map_eq_some_iff.1 Builder_Extra_169.sizeBuilder
  go_enter Try.func116, Try.ntmps116
  go_wp2
  rw [Lib.run_to_unsafe w ⟨b, 0, none⟩ Try.underlying119 Try.underlying152 hj (by rw [hjs]; decide) hsh (Nat.zero_lt_succ 1)]
  simp only [Result.andThen]
  rw [Oper.upon_value]
  go_wp2
  rw [run_callFunc_extern Try.func125 (by kernel_rfl) (by kernel_rfl) (by kernel_rfl) (e := Extern.AbiNoEscape.same) (by kernel_rfl)]
  rw [Lib.run_noEscape]
  simp only [Result.andThen]
  rw [Oper.upon_value]
  go_wp2
  rw [Lib.run_from_unsafe w ⟨b, 0, none⟩ Try.underlying152 Try.underlying119 hj hsh Builder_Extra_169.liesBuilder]
  simp only [Result.andThen]
  rw [Oper.upon_value]
  go_wp2
  go_end0
  exact ⟨rfl, rfl⟩
theorem copyCheck_calls (B b : Nat) (bs : List Value) (w : World) (h : Lib.IsBuilder 121 5 B b bs w) :
    Calls Try.prog 116 #[.pointer (some ⟨b, 0, none⟩)] w fun e w' => e = .returned (.tuple #[]) ∧ (Lib.BuilderAt 121 5 B b (.pointer (some ⟨b, 0, none⟩)) bs w' ∧ Below B w w') := by
  rcases h with h | h
  · refine (copyCheck_fresh b w h.cell0 h.shape h.frozen0).mono ?_
    rintro e w' ⟨rfl, rfl⟩
    exact ⟨rfl, h.used _, (Below.refl B w).setCell (p := ⟨b, 0, none⟩) h.1 _⟩
  · refine (copyCheck_used b w h.cell0).mono ?_
    rintro e w' ⟨rfl, rfl⟩
    exact ⟨rfl, h, Below.refl B _⟩

set_option maxHeartbeats 2000000 in
set_option maxRecDepth 100000 in
theorem writeByte_calls (B b : Nat) (bs : List Value) (c : Int) (w : World) (h : Lib.IsBuilder 121 5 B b bs w) (hlen : bs.length + 1 ≤ 140737488355328) (hBw : B ≤ w.heap.size) :
    Calls Try.prog 89 #[.pointer (some ⟨b, 0, none⟩), .int .u8 c] w fun e w' => e = .returned .nilIface ∧ (Lib.BuilderAt 121 5 B b (.pointer (some ⟨b, 0, none⟩)) (bs ++ [.int .u8 c]) w' ∧ Below B w w') := by
  obtain ⟨i0, hi, hz0, hz1, hz2⟩ := info_parts infoByte_
  go_enter Try.func89, Try.ntmps89
  go_wp2_with (go_at_call 116; refine (copyCheck_calls B b bs _ h).mono ?_)
  rintro e w1 ⟨rfl, h1, hb1⟩
  obtain ⟨hB, v, hbk, hown, hne⟩ := h1
  have c0 : w1.cell? ⟨b, 0, none⟩ = some (.pointer (some ⟨b, 0, none⟩)) := by rw [Lib.cell_of_heap hbk]; rfl
  have c1 : w1.cell? ⟨b, 1, none⟩ = some v := by rw [Lib.cell_of_heap hbk]; rfl
  go_wp2_with (at_builtin; refine wpList_append_own _ rfl _ _ 47 rfl B 5 i0 (.int .u8 0) 1 1 Try.underlying47 hi hz0 hz1 hz2 rfl (by decide) _ _ _ rfl (hown.alloc _) ⟨w1.heap.size, 0, none⟩ 1 1 [.int .u8 c] rfl rfl ?c1 ?c2 ?c3 ?c4 ?c5 ?_)
  case c1 =>
    intro j u hj
    match j, hj with
    | 0, hj => simp at hj; subst hj; simp [Addr.add]
  case c2 => intro u hu; simp at hu; subst hu; rfl
  case c3 => unfold maxLen; omega
  case c4 => omega
  case c5 => have := hb1.size; simp; omega
  intro v' w2 hown' hgrow _
  have hlt : b < w1.heap.size := by
    rcases Nat.lt_or_ge b w1.heap.size with h' | h'
    · exact h'
    · simp [Array.getElem?_eq_none h'] at hbk
  have hb2 : w2.heap[b]? = some (.cells #[.pointer (some ⟨b, 0, none⟩), v] 121 (0, 0)) := by
    rw [hgrow.block b (by simp; omega) (fun e => hne e.symm), Lib.alloc_old w1 _ b hlt]
    exact hbk
  have d0 : w2.cell? ⟨b, 0, none⟩ = some (.pointer (some ⟨b, 0, none⟩)) := by rw [Lib.cell_of_heap hb2]; rfl
  have d1 : w2.cell? ⟨b, 1, none⟩ = some v := by rw [Lib.cell_of_heap hb2]; rfl
  have f1 : w2.frozen? ⟨b, 1, none⟩ = false := Lib.frozen_of_heap hb2 1
  obtain ⟨g, cap, rfl⟩ : ∃ g cap, v' = .slice (some ⟨g, 0, none⟩) (bs.length + 1) cap := by
    rcases hown'.2 with ⟨_, h0⟩ | ⟨g, cap, cur, hv, _⟩
    · omega
    · exact ⟨g, cap, hv⟩
  go_wp2
  go_ret
  refine ⟨rfl, ?_, ?_⟩
  · exact Lib.BuilderAt.put (T := 121) (e := 5) hB hb2 (bs' := bs ++ [.int .u8 c]) (by simpa using hown') (by decide)
  · exact ((hb1.alloc (by have := hb1.size; omega) _).grown hgrow (by have := hb1.size; simp; omega) (fun k hk => (hown.lt k hk).1)).setCell (p := ⟨b, 1, none⟩) hB _

def hexDigits : ByteArray := ⟨#[48, 49, 50, 51, 52, 53, 54, 55, 56, 57, 97, 98, 99, 100, 101, 102]⟩
def hexTwo (c : Int) : List Int := [bt hexDigits (c / 16), bt hexDigits (c % 16)]
def hexL (l : List Int) : List Int := l.flatMap hexTwo
def sha_Hex.f (a0 : ByteArray) : Option ByteArray := if a0.size ≤ 70368744177664 then some (strOfNums (hexL (bytesOf a0))) else none
theorem hexL_step (l : List Int) (i : Nat) (h : i < l.length) : hexL (l.take (i + 1)) = hexL (l.take i) ++ hexTwo (l.getD i 0) := by
  unfold hexL
  rw [List.take_succ_eq_append_getElem h, List.flatMap_append, List.getD_eq_getElem?_getD, List.getElem?_eq_getElem h]
  simp
theorem hexL_length (l : List Int) : (hexL l).length = 2 * l.length := by
  induction l with
  | nil => rfl
  | cons a l ih => rw [hexL, List.flatMap_cons, List.length_append, ← hexL, ih]; simp [hexTwo]; omega
theorem nums_bytes (xs : List Int) (h : ∀ x ∈ xs, 0 ≤ x ∧ x ≤ 255) : nums .u8 xs = Lib.byteCells (xs.map fun n => UInt8.ofNat n.toNat) := by
  unfold nums Lib.byteCells
  rw [List.map_map]
  refine List.map_congr_left fun x hx => ?_
  have := h x hx
  have e : (UInt8.ofNat x.toNat).toNat = x.toNat := UInt8.toNat_ofNat_of_lt' (by show x.toNat < 256; omega)
  simp only [Function.comp, e]
  congr 1
  omega
theorem hexL_range (l : List Int) : ∀ x ∈ hexL l, 0 ≤ x ∧ x ≤ 255 := by
  intro x hx
  obtain ⟨c, _, hc⟩ := List.mem_flatMap.1 hx
  simp only [hexTwo, List.mem_cons, List.not_mem_nil, or_false] at hc
  rcases hc with rfl | rfl
  · exact bt_range _ _
  · exact bt_range _ _

set_option maxHeartbeats 800000 in
set_option maxRecDepth 100000 in
theorem sha_Hex.calls (a0 : ByteArray) (r : ByteArray) (w : World) (h : sha_Hex.f a0 = some r) :
    Calls Try.prog 42 #[.string a0] w fun e w' => e = .returned (.string r) ∧ Below w.heap.size w w' := by
  unfold sha_Hex.f at h
  by_cases hs : a0.size ≤ 70368744177664
  · rw [if_pos hs] at h
    have hr := (Option.some.inj h).symm
    clear h
    have HR := Aside0.mk hr
    clear hr
    go_enter Try.func42, Try.ntmps42
    go_wp2
    go_loopg [4, 7] (a0.size + 1) (fun gg _ v7 wr => ∃ i : Nat, i + gg = a0.size + 1 ∧ v7 = .int .i64 (i : Int) ∧ Aside0 (Lib.IsBuilder 121 5 w.heap.size w.heap.size (nums .u8 (hexL ((bytesOf a0).take i))) wr) ∧ Aside0 (Below w.heap.size w wr))
    case atStart => exact ⟨0, by omega, rfl, ⟨.inl ⟨Nat.le_refl _, _, heap_alloc_new _ _, World.ownsRow_nil .., by simp [Value.ownBlock]⟩⟩, ⟨below_alloc (Below.refl _ _) _⟩⟩
    case round =>
      obtain ⟨i, hi, rfl, HO, HB⟩ := hrel
      by_cases hlt : i < a0.size
      · obtain ⟨gg, rfl⟩ : ∃ m, gk = m + 1 := ⟨gk - 1, by omega⟩
        have hltz : (i : Int) < (a0.size : Int) := by omega
        have p0 : 0 ≤ (i : Int) := by omega
        have hx : ((a0[i]'hlt).toNat : Int) = bt a0 (i : Int) := bt_at a0 (i : Int) hlt
        have hst := hexL_step (bytesOf a0) i (by rw [bytesOf_length]; exact hlt)
        rw [show (bytesOf a0).getD i 0 = bt a0 (i : Int) by rw [← rd_bytesOf]; simp [rd]] at hst
        have hlen : (nums .u8 (hexL ((bytesOf a0).take i))).length + 2 ≤ 140737488355328 := by
          rw [nums_length, hexL_length, List.length_take]
          omega
        have hrg := bt_range a0 (i : Int)
        generalize bt a0 (i : Int) = c at hx hst hrg
        generalize hbs : hexL ((bytesOf a0).take i) = bs at HO hst hlen
        have HST := Aside0.mk hst
        have HLEN := Aside0.mk hlen
        clear hst hlen hbs
        obtain ⟨j1, hj1⟩ : ∃ j : Int, c / 16 = j := ⟨_, rfl⟩
        obtain ⟨j2, hj2⟩ : ∃ j : Int, Go.bits .and .u8 c 15 = j := ⟨_, rfl⟩
        have e2 : c % 16 = j2 := by rw [← hj2, u8_and15 c hrg.1 (by omega)]
        have p1 : 0 ≤ j1 := by omega
        have q1 : j1 < 16 := by omega
        have p2 : 0 ≤ j2 := by omega
        have q2 : j2 < 16 := by omega
        have hx1 := bt_at (⟨#[48, 49, 50, 51, 52, 53, 54, 55, 56, 57, 97, 98, 99, 100, 101, 102]⟩ : ByteArray) j1
        have hx2 := bt_at (⟨#[48, 49, 50, 51, 52, 53, 54, 55, 56, 57, 97, 98, 99, 100, 101, 102]⟩ : ByteArray) j2
        have E1 := Aside0.mk hj1
        have E2 := Aside0.mk e2
        clear e2
        obtain ⟨d1, hd1⟩ : ∃ j : Int, bt (⟨#[48, 49, 50, 51, 52, 53, 54, 55, 56, 57, 97, 98, 99, 100, 101, 102]⟩ : ByteArray) j1 = j := ⟨_, rfl⟩
        obtain ⟨d2, hd2⟩ : ∃ j : Int, bt (⟨#[48, 49, 50, 51, 52, 53, 54, 55, 56, 57, 97, 98, 99, 100, 101, 102]⟩ : ByteArray) j2 = j := ⟨_, rfl⟩
        rw [hd1] at hx1
        rw [hd2] at hx2
        have D1 := Aside0.mk hd1
        have D2 := Aside0.mk hd2
        clear hd1 hd2 hrg
        go_wp2_with (first
          | (go_at_call 89; (with_reducible refine (writeByte_calls w.heap.size w.heap.size (nums .u8 bs) d1 _ HO.out (by have := HLEN.out; omega) HB.out.size).mono ?_); rintro e w1 ⟨rfl, hb1, hl1⟩; have HO1 := Aside0.mk (show Lib.IsBuilder 121 5 w.heap.size w.heap.size _ _ from .inr hb1); have HB1 := Aside0.mk (HB.out.trans (hl1.mono (Nat.le_refl _))); clear HO HB hb1 hl1)
          | (go_at_call 89; (with_reducible refine (writeByte_calls w.heap.size w.heap.size (nums .u8 bs ++ [.int .u8 d1]) d2 _ HO1.out (by have := HLEN.out; simp only [List.length_append, List.length_cons, List.length_nil]; omega) HB1.out.size).mono ?_); rintro e w2 ⟨rfl, hb2, hl2⟩; have HO2 := Aside0.mk hb2; have HB2 := Aside0.mk (HB1.out.trans (hl2.mono (Nat.le_refl _))); clear HO1 HB1 hb2 hl2))
        go_roundg gg
        case measure => omega
        case rel => exact ⟨i + 1, by omega, by go_num, ⟨.inr (by
          rw [HST.out, nums_append]
          have e : nums .u8 (hexTwo c) = [.int .u8 d1, .int .u8 d2] := by
            unfold hexTwo hexDigits
            rw [E1.out, E2.out, D1.out, D2.out]
            rfl
          rw [e]
          have := HO2.out
          rw [List.append_assoc] at this
          exact this)⟩, HB2⟩
      · have hltz : ¬ (i : Int) < (a0.size : Int) := by omega
        have hall : (bytesOf a0).take i = bytesOf a0 := List.take_of_length_le (by rw [bytesOf_length]; omega)
        rw [hall, nums_bytes _ (hexL_range _)] at HO
        clear hall
        go_wp2_with (go_at_call 90; refine (builderString_calls w.heap.size w.heap.size _ _ HO.out HB.out.size).mono ?_; rintro e w1 ⟨rfl, hb1⟩)
        go_ret
        exact ⟨by rw [HR.out]; rfl, HB.out.trans (hb1.mono (Nat.le_refl _))⟩
  · rw [if_neg hs] at h
    exact absurd h (by simp)
end Go.Proofs.Ytelcaepenfjloaa.Print
