/- sha.Mix, and the laws that lean on it, by hand. -/
import Derived.Test.YtelcaepenfjloaaPrK
import Derived.Test.YtelcaepenfjloaaMaSha
import Derived.Test.YtelcaepenfjloaaMaShaMix
import Derived.Test.YtelcaepenfjloaaMaShaSum
import Derived.Test.YtelcaepenfjloaaMaShaParts
import Derived.IntWalk
import Derived.Outline
namespace Go.Proofs.Ytelcaepenfjloaa.Print
open Go.RowKit Go.Proofs.YtelcaepenfjloaaW.PrintWords Go.Proofs.YtelcaepenfjloaaW.PrintLast Go.Proofs.YtelcaepenfjloaaW.PrintMore
set_option linter.unusedVariables false
set_option linter.unusedSimpArgs false

theorem bytes_C (W : World) (e : TypeId) (s : ByteArray) (hs : s.size ≤ 9223372036854775807) : Kd.C (Kd.int .u8) (Lib.bytesWorld W e s) (some ⟨W.heap.size, 0, none⟩) (bytesOf s).length (bytesOf s) := by
  refine ⟨rfl, by rw [bytesOf_length]; exact hs, fun _ => ⟨_, rfl, fun j p hj => ⟨[.int .u8 p], rfl, rfl, fun i u hu => ?_⟩⟩⟩
  have hjl : j < (bytesOf s).length := (List.getElem?_eq_some_iff.1 hj).1
  rw [bytesOf_length] at hjl
  cases i with
  | succ i => simp at hu
  | zero =>
    obtain rfl : Value.int .u8 p = u := by simpa using hu
    have hc := Lib.bytesWorld_cell W e s j hjl
    have h' : j < s.data.toList.length := by rw [data_length]; exact hjl
    have hp : p = ((s.data.toList.getD j 0).toNat : Int) := by
      unfold bytesOf at hj
      rw [List.getElem?_map, List.getElem?_eq_getElem h'] at hj
      simp only [Option.map_some, Option.some.injEq] at hj
      rw [← hj, List.getD_eq_getElem?_getD, List.getElem?_eq_getElem h']
      rfl
    rw [hp]
    show (Lib.bytesWorld W e s).cell? (Addr.add ⟨W.heap.size, 0, none⟩ (j * 1 + 0)) = _
    rw [Nat.mul_one, Nat.add_zero, add_plain]
    exact hc
theorem tm8 : ([0, 0, 0, 0, 0, 0, 0, 0] : List Int) = List.replicate 8 0 := rfl
set_option maxHeartbeats 800000 in
set_option maxRecDepth 100000 in
/-- A block mixed into a state. -/
theorem mixX_calls (st : List Int) (h8 : st.length = 8) (s : ByteArray) (hs : s.size = 64) (w : World) :
    Calls Try.prog 30 #[.agg (st.map (Value.int .u32)).toArray, .string s] w fun e w' => e = .returned (.tuple #[.agg ((mixB st (bytesOf s)).map (Value.int .u32)).toArray, .int .i64 0]) ∧ Below w.heap.size w w' := by
  have hs8 := blk_size8 h8
  have hl := mixB_len st (bytesOf s) h8
  have hs8' := blk_size8 hl
  have ho8 := blk_one (mixB st (bytesOf s))
  have hz8 : ((List.replicate 8 (0 : Int)).map (Value.int .u32)).toArray.size = ((mixB st (bytesOf s)).map (Value.int .u32)).toArray.size := blk_same (by rw [hl]; rfl)
  have hm := fun (W : World) (A : Option Addr) (c : Nat) (hr : Kd.C (Kd.int .u8) W A (bytesOf s).length (bytesOf s)) (hc : (bytesOf s).length ≤ c) => mix_calls st A c (bytesOf s) W h8 hr hc (by rw [bytesOf_length]; omega) (by rw [bytesOf_length]; omega)
  have hbl := bytesOf_length s
  rw [hs] at hbl
  rw [hbl] at hm
  have hby := fun (W : World) => bytes_C W 5 s (by omega)
  rw [hbl] at hby
  obtain ⟨x0, x1, x2, x3, x4, x5, x6, x7, rfl⟩ := list8 st h8
  generalize mixB [x0, x1, x2, x3, x4, x5, x6, x7] (bytesOf s) = y at hl hs8' ho8 hz8 hm ⊢
  obtain ⟨y0, y1, y2, y3, y4, y5, y6, y7, rfl⟩ := list8 y hl
  have HM : Aside0 (∀ (W : World) (A : Option Addr) (c : Nat), Kd.C (Kd.int .u8) W A 64 (bytesOf s) → 64 ≤ c → Calls Try.prog 83 #[.agg #[.int .u32 x0, .int .u32 x1, .int .u32 x2, .int .u32 x3, .int .u32 x4, .int .u32 x5, .int .u32 x6, .int .u32 x7], .slice A 64 c] W fun e w' => e = .returned (.agg #[.int .u32 y0, .int .u32 y1, .int .u32 y2, .int .u32 y3, .int .u32 y4, .int .u32 y5, .int .u32 y6, .int .u32 y7]) ∧ Below W.heap.size W w') := ⟨hm⟩
  have HBY : Aside0 (∀ (W : World) (g : Nat), W.heap.size = g → Kd.C (Kd.int .u8) (Lib.bytesWorld W 5 s) (some ⟨g, 0, none⟩) 64 (bytesOf s)) := ⟨fun W g h => h ▸ hby W⟩
  have hsz : (s.size : Int) = 64 := by omega
  have kb := fun W => print_bytes (P := Try.prog) 9 47 5 Try.underlying9 Try.underlying47 Try.underlying5 s W
  rw [hs] at kb
  clear hm hby hbl
  go_enter Try.func30, Try.ntmps30
  go_wp2_with fail
  refine (HM.out _ _ _ (HBY.out _ _ ?hsz) ?hcap).mono ?_
  case hsz => simp
  case hcap => exact grownCap_ge _ _ _ _
  rintro e W6 ⟨rfl, hb⟩
  have hbel := Aside0.mk (below_step (bytes_below (below_alloc (below_alloc (Below.refl w.heap.size w) _) _) (by simp; omega) 5 s) hb)
  have hblk := Aside0.mk ((show Blk _ (w.heap.size + 1) 28 (List.replicate 8 0) from (Blk.new (w.alloc _) (w.heap.size + 1) 28 (List.replicate 8 0) _ (by simp) rfl).below (bytes_below (Below.refl _ _) (Nat.le_refl _) 5 s)).below hb)
  clear hb HM HBY kb
  go_wp2_with (first
    | (refine wpList_store_row rfl 28 (.tmp 4) (.tmp 13) rfl (w.heap.size + 1) (List.map (Value.int .u32) [y0, y1, y2, y3, y4, y5, y6, y7]).toArray rfl rfl 28 _ hblk.out.out hs8' hz8 ho8 ?_)
    | fail)
  refine bodyPost_ret (v := .tuple #[.agg (List.map (Value.int .u32) [y0, y1, y2, y3, y4, y5, y6, y7]).toArray, .int .i64 0]) (results_list (rs := [.cell 4 28, .tmp 5]) rfl (by simp) (.cell (w.heap.size + 1) 28 _ (0, 0) _ rfl (hblk.out.row [y0, y1, y2, y3, y4, y5, y6, y7]).out Try.underlying28 rfl hs8' (.tmp .nil))) rfl ?_
  exact ⟨rfl, below_row hbel.out (by simp) _⟩
theorem mixBad_calls (st : List Int) (h8 : st.length = 8) (s : ByteArray) (hs : s.size ≠ 64) (w : World) :
    Calls Try.prog 30 #[.agg (st.map (Value.int .u32)).toArray, .string s] w fun e w' => e = .returned (.tuple #[.agg ((List.replicate 8 (0 : Int)).map (Value.int .u32)).toArray, .int .i64 1]) ∧ Below w.heap.size w w' := by
  have hs8' := blk_size8 (x := List.replicate 8 0) rfl
  have ho8 := blk_one (List.replicate 8 0)
  have hz8 : ((List.replicate 8 (0 : Int)).map (Value.int .u32)).toArray.size = ((List.replicate 8 (0 : Int)).map (Value.int .u32)).toArray.size := rfl
  obtain ⟨x0, x1, x2, x3, x4, x5, x6, x7, rfl⟩ := list8 st h8
  have hsz : ((s.size : Int) == 64) = false := by simp; omega
  have hsz2 : ((s.size : Int) != 64) = true := by simp; omega
  have hblk := Aside0.mk (Blk.new (w.alloc (.cells #[.int .u32 x0, .int .u32 x1, .int .u32 x2, .int .u32 x3, .int .u32 x4, .int .u32 x5, .int .u32 x6, .int .u32 x7] 28)) (w.heap.size + 1) 28 (List.replicate 8 0) _ (by simp) rfl)
  go_enter Try.func30, Try.ntmps30
  go_wp2_with (first
    | (refine wpList_store_row rfl 28 (.tmp 4) (.tmp 9) rfl (w.heap.size + 1) (List.map (Value.int .u32) (List.replicate 8 0)).toArray rfl rfl 28 _ hblk.out.out hs8' hz8 ho8 ?_)
    | fail)
  refine bodyPost_ret (v := .tuple #[.agg (List.map (Value.int .u32) (List.replicate 8 0)).toArray, .int .i64 1]) (results_list (rs := [.cell 4 28, .tmp 5]) rfl (by simp) (.cell (w.heap.size + 1) 28 _ (0, 0) _ rfl (hblk.out.row (List.replicate 8 0)).out Try.underlying28 rfl hs8' (.tmp .nil))) rfl ?_
  exact ⟨rfl, below_row (below_alloc (below_alloc (Below.refl w.heap.size w) _) _) (by simp) _⟩
end Go.Proofs.Ytelcaepenfjloaa.Print
