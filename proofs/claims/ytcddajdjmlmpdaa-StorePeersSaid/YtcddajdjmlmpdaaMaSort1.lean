/- slices.Sort at []int, off the shelf: the laying (printed by the shelf's lay-plain), and what it says of a row. -/
import Derived.Test.YtcddajdjmlmpdaaPrK
import Derived.Shelf.Sort.Plain
import Derived.Shelf.Slices.In.SortNone
import Derived.Ground.NamesProg
import Derived.IntWalk
namespace Go.Proofs.Ytcddajdjmlmpdaa.Print
open Go.Shelf Go.RowKit Go.Proofs.YtcddajdjmlmpdaaW.PrintWords Go.Proofs.YtcddajdjmlmpdaaW.PrintLast Go.Proofs.YtcddajdjmlmpdaaW.PrintMore
set_option linter.unusedVariables false
set_option linter.unusedSimpArgs false

def sort189_ren : Go.Shelf.Ren := ⟨fun | 189 => 75 | 125 => 82 | 257 => 81 | 128 => 93 | 129 => 94 | 294 => 84 | 295 => 85 | 296 => 86 | 297 => 87 | 298 => 88 | 299 => 89 | 216 => 90 | 300 => 91 | 301 => 92 | 328 => 95 | 329 => 96 | 330 => 97 | 331 => 98 | 332 => 99 | 215 => 100 | 343 => 101 | n => n, fun | 28 => 30 | 3 => 3 | 46 => 130 | 0 => 0 | 51 => 140 | 53 => 142 | 4 => 4 | 183 => 134 | 182 => 133 | 131 => 103 | 5 => 5 | 9 => 9 | 218 => 143 | 222 => 147 | 228 => 149 | 229 => 150 | n => n, fun | n => n⟩
theorem sort189 : Go.Proofs.Lays.n189 Try.prog sort189_ren := {
  mixed := by kernel_rfl
  f125 := Try.func82.trans (congrArg some (by kernel_rfl))
  f128 := Try.func93.trans (congrArg some (by kernel_rfl))
  f129 := Try.func94.trans (congrArg some (by kernel_rfl))
  f189 := Try.func75.trans (congrArg some (by kernel_rfl))
  f215 := Try.func100.trans (congrArg some (by kernel_rfl))
  f216 := Try.func90.trans (congrArg some (by kernel_rfl))
  f257 := Try.func81.trans (congrArg some (by kernel_rfl))
  f294 := Try.func84.trans (congrArg some (by kernel_rfl))
  f295 := Try.func85.trans (congrArg some (by kernel_rfl))
  f296 := Try.func86.trans (congrArg some (by kernel_rfl))
  f297 := Try.func87.trans (congrArg some (by kernel_rfl))
  f298 := Try.func88.trans (congrArg some (by kernel_rfl))
  f299 := Try.func89.trans (congrArg some (by kernel_rfl))
  f300 := Try.func91.trans (congrArg some (by kernel_rfl))
  f301 := Try.func92.trans (congrArg some (by kernel_rfl))
  f328 := Try.func95.trans (congrArg some (by kernel_rfl))
  f329 := Try.func96.trans (congrArg some (by kernel_rfl))
  f330 := Try.func97.trans (congrArg some (by kernel_rfl))
  f331 := Try.func98.trans (congrArg some (by kernel_rfl))
  f332 := Try.func99.trans (congrArg some (by kernel_rfl))
  f343 := Try.func101.trans (congrArg some (by kernel_rfl))
  t0 := Try.underlying0
  a0 := Try.isAgg0
  z0 := Try.sizeOf0
  v0 := Try.zeroValue0
  t3 := Try.underlying3
  a3 := Try.isAgg3
  z3 := Try.sizeOf3
  v3 := Try.zeroValue3
  t4 := Try.underlying4
  a4 := Try.isAgg4
  z4 := Try.sizeOf4
  v4 := Try.zeroValue4
  t5 := Try.underlying5
  a5 := Try.isAgg5
  z5 := Try.sizeOf5
  v5 := Try.zeroValue5
  t9 := Try.underlying9
  a9 := Try.isAgg9
  z9 := Try.sizeOf9
  v9 := Try.zeroValue9
  t28 := Try.underlying30
  a28 := Try.isAgg30
  z28 := Try.sizeOf30
  v28 := Try.zeroValue30
  t46 := Try.underlying130
  a46 := Try.isAgg130
  z46 := Try.sizeOf130
  v46 := Try.zeroValue130
  t51 := Try.underlying140
  a51 := Try.isAgg140
  z51 := Try.sizeOf140
  v51 := Try.zeroValue140
  t53 := Try.underlying142
  a53 := Try.isAgg142
  z53 := Try.sizeOf142
  v53 := Try.zeroValue142
  t131 := Try.underlying103
  a131 := Try.isAgg103
  z131 := Try.sizeOf103
  v131 := Try.zeroValue103
  t182 := Try.underlying133
  a182 := Try.isAgg133
  z182 := Try.sizeOf133
  v182 := Try.zeroValue133
  t183 := Try.underlying134
  a183 := Try.isAgg134
  z183 := Try.sizeOf134
  v183 := Try.zeroValue134
  t218 := Try.underlying143
  a218 := Try.isAgg143
  z218 := Try.sizeOf143
  v218 := Try.zeroValue143
  t222 := Try.underlying147
  a222 := Try.isAgg147
  z222 := Try.sizeOf147
  v222 := Try.zeroValue147
  t228 := Try.underlying149
  a228 := Try.isAgg149
  z228 := Try.sizeOf149
  v228 := Try.zeroValue149
  t229 := Try.underlying150
  a229 := Try.isAgg150
  z229 := Try.sizeOf150
  v229 := Try.zeroValue150 }
theorem put_cells (cur : Array Value) (d : List Int) (h : d.length ≤ cur.size) : (Go.Sort.putCells (Value.int .i64) 0 d.toArray cur).toList.take d.length = d.map (Value.int .i64) := by
  apply List.ext_getElem?
  intro j
  by_cases hj : j < d.length
  · rw [List.getElem?_take, if_pos hj, Array.getElem?_toList]
    unfold Go.Sort.putCells
    rw [Array.getElem?_mapIdx, Array.getElem?_eq_getElem (by omega), Option.map_some, if_pos (by simp; omega), List.getElem?_map, List.getElem?_eq_getElem hj]
    simp [getElem!_pos, hj]
  · rw [List.getElem?_eq_none (by simp; omega), List.getElem?_eq_none (by simp; omega)]
theorem put_sorted {W' : World} {g : Nat} {cur : Array Value} {e : TypeId} (hg : W'.heap[g]? = some (.cells cur e (0, 0))) (d : Array Int) (n : Nat) (os : Array Obj) :
    (Go.Sort.grow (Go.Sort.putRow (Value.int .i64) (Go.Sort.ahead W' n) g 0 d) os).heap[g]? = some (.cells (Go.Sort.putCells (Value.int .i64) 0 d cur) e (0, 0)) ∧
    ∀ (w : World), Below w.heap.size w W' → w.heap.size ≤ g → Below w.heap.size w (Go.Sort.grow (Go.Sort.putRow (Value.int .i64) (Go.Sort.ahead W' n) g 0 d) os) := by
  have hlt := blk_lt hg
  have hh : (Go.Sort.putRow (Value.int .i64) (Go.Sort.ahead W' n) g 0 d).heap = W'.heap.modify g (Go.Sort.onCells (Go.Sort.putCells (Value.int .i64) 0 d)) := rfl
  have hs : (W'.heap.modify g (Go.Sort.onCells (Go.Sort.putCells (Value.int .i64) 0 d))).size = W'.heap.size := Array.size_modify
  have hat : ∀ i, i < W'.heap.size → (Go.Sort.grow (Go.Sort.putRow (Value.int .i64) (Go.Sort.ahead W' n) g 0 d) os).heap[i]? = (W'.heap.modify g (Go.Sort.onCells (Go.Sort.putCells (Value.int .i64) 0 d)))[i]? := by
    intro i hi
    show (Array.append _ os)[i]? = _
    rw [hh]
    exact Array.getElem?_append_left (by rw [hs]; exact hi)
  refine ⟨?_, fun w hb hge => ?_⟩
  · rw [hat g hlt, Array.getElem?_modify, if_pos rfl, hg]
    rfl
  · refine ⟨hb.os, hb.tape, hb.output, ?_, fun i hi => ?_⟩
    · refine Nat.le_trans hb.size ?_
      show W'.heap.size ≤ (Array.append _ os).size
      rw [hh]
      simp
    · rw [hat i (Nat.lt_of_lt_of_le hi hb.size), Array.getElem?_modify, if_neg (by omega)]
      exact hb.block i hi
/-- slices.Sort of a row of the call's own. -/
theorem sort_calls {w W' : World} {v : Value} {acc : List Int} (hb : Below w.heap.size w W') (hr : Kd.R (Kd.int .i64) 3 W' w.heap.size (fun _ => True) v acc) (hl : acc.length < 1000000) :
    Calls Try.prog 75 #[v] W' fun e W3 => e = .returned (.tuple #[]) ∧ Kd.R (Kd.int .i64) 3 W3 w.heap.size (fun _ => True) v (acc.mergeSort fun x y => decide (x ≤ y)) ∧ Below w.heap.size w W3 := by
  have ho := Kd.own_of_R hr
  obtain ⟨h1, h2⟩ := id ho
  rcases h2 with ⟨rfl, h0⟩ | ⟨g, cap, cur, rfl, hg, hh, hnc, hcm, hcs, htake⟩
  · have : acc = [] := List.length_eq_zero_iff.1 h0
    subst this
    refine (Any.slices_Sort_int_none sort189 none 0 W').mono ?_
    rintro e W3 ⟨rfl, rfl⟩
    exact ⟨rfl, by simpa using hr, hb⟩
  · rw [Nat.mul_one] at htake hcs
    have hcur : ∀ j, j < acc.length → cur[j]? = some (.int .i64 (acc.toArray)[j]!) := by
      intro j hj
      have := congrArg (fun l => l[j]?) htake
      simp only [List.getElem?_take, if_pos hj, Array.getElem?_toList] at this
      rw [this]
      simp [encs, getElem!_pos, hj]
    refine (Any.slices_Sort_int sort189 g 0 cap acc W' (fun j hj => ⟨?_, ?_⟩) (blk_lt hh) (by omega)).mono ?_
    · rw [Nat.zero_add, blk_cell hh j]
      exact hcur j (by simpa using hj)
    · rw [Nat.zero_add]
      exact blk_frozen hh j
    · rintro e W3 ⟨rfl, n, os, rfl⟩
      obtain ⟨p1, p2⟩ := put_sorted hh (acc.mergeSort fun x y => decide (x ≤ y)).toArray n os
      have hlen : (acc.mergeSort fun x y => decide (x ≤ y)).length = acc.length := List.length_mergeSort _
      refine ⟨rfl, Kd.R_of_own ⟨by simp [encs], .inr ⟨g, cap, _, ?_, hg, p1, by rw [hlen]; exact hnc, hcm, ?_, ?_⟩⟩ (fun _ _ => trivial), p2 w hb hg⟩
      · rw [hlen]
      · rw [Nat.mul_one, ← hcs]
        simp [Go.Sort.putCells]
      · rw [Nat.mul_one]
        exact put_cells cur _ (by rw [hlen, hcs]; exact hnc)
end Go.Proofs.Ytcddajdjmlmpdaa.Print
