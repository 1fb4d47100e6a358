/- store: a store in memory; New, Len, Room. -/
import Derived.Test.YtcddajdjmlmpdaaPrK
import Derived.Test.YtcddajdjmlmpdaaMaMaps1
import Derived.Test.YtcddajdjmlmpdaaMaNet2
import Derived.Test.YtcddajdjmlmpdaaMaStore1
import Derived.Test.YtcddajdjmlmpdaaMaStore3
import Derived.Test.YtcddajdjmlmpdaaMaStore3
import Derived.IntWalk
import Derived.BigQuiet
import Derived.Deep.QuietTactic
import Derived.Deep.RegionLaw
import Derived.Deep.RegionHeld3
import Derived.RegionTactic
import Derived.StillTailTactics
import Derived.Outline
import Derived.Laws.CopyOwn
namespace Go.Proofs.Ytcddajdjmlmpdaa.Print
open Go.RowKit Go.Proofs.YtcddajdjmlmpdaaW.PrintWords Go.Proofs.YtcddajdjmlmpdaaW.PrintLast Go.Proofs.YtcddajdjmlmpdaaW.PrintMore
open Go.ChangeMaps (setBlock)
open Go.Maps (Keyed)
set_option linter.unusedVariables false
set_option linter.unusedSimpArgs false

abbrev SMs := List (En × Value)
def entL (m : SMs) : List (Value × Value) := m.map fun p => (.int .i64 p.1.f0, .agg (entC p.1 p.2))
abbrev keyV (x : En) : Value := .agg #[.int .i64 x.f1, .int .i64 x.f2.f0, .int .i64 x.f2.f1, .string x.f2.f2]
def entK (m : SMs) : List (Value × Value) := m.map fun p => (keyV p.1, .int .i64 p.1.f0)
theorem entL_len (m : SMs) : (entL m).length = m.length := List.length_map _
theorem entK_len (m : SMs) : (entK m).length = m.length := List.length_map _
/-- An entry that may be a key, and has a row. -/
structure EnOk (x : En) : Prop where
  p : (Lit.int .i64 x.f1).wf = true
  a : (Lit.int .i64 x.f2.f0).wf = true
  b : (Lit.int .i64 x.f2.f1).wf = true
  s : x.f2.f2.size ≤ 1000000
  l : 0 < x.f3.length ∧ x.f3.length < 1000000
theorem EnOk.key {x : En} (h : EnOk x) : ∃ l, keyOf Try.prog 105 (keyV x) = some l := keyK _ _ 0 _ _ h.p h.a h.b h.s
/-- A store at block g, its maps at b1 and b2. -/
structure StAt (w W : World) (g b1 b2 : Nat) (room last : Int) (m : SMs) : Prop where
  blk : W.heap[g]? = some (.cells #[.int .i64 room, .int .i64 last, .map (some b1), .map (some b2)] 101 (0, 0))
  map : IsMap Try.prog 3 W b1 (entL m)
  keys : IsMap Try.prog 105 W b2 (entK m)
  ne : b1 ≠ b2
  rows : ∀ p ∈ m, Kd.R (Kd.int .i64) 3 W w.heap.size (fun _ => True) p.2 p.1.f3
  ok : ∀ p ∈ m, EnOk p.1
  ge : w.heap.size ≤ g
  b1ge : w.heap.size ≤ b1
  b2ge : w.heap.size ≤ b2
  bel : Below w.heap.size w W
  rise : (m.map (·.1.f0)).Pairwise (· < ·)
  top : ∀ p ∈ m, 1 ≤ p.1.f0 ∧ p.1.f0 ≤ last
  lo : 0 ≤ last
section
variable {w W W2 : World} {g b1 b2 : Nat} {room last : Int} {m : SMs}
theorem StAt.below (h : StAt w W g b1 b2 room last m) (hb : Below W.heap.size W W2) : StAt w W2 g b1 b2 room last m :=
  ⟨blk_below h.blk hb, h.map.below hb, h.keys.below hb, h.ne, fun p hp => Kd.R_below (h.rows p hp) hb, h.ok, h.ge, h.b1ge, h.b2ge, below_step h.bel hb, h.rise, h.top, h.lo⟩
theorem StAt.ne1 (h : StAt w W g b1 b2 room last m) : g ≠ b1 := by
  obtain ⟨es, clock, hm⟩ := h.map
  intro e
  have h1 := h.blk
  have h2 := hm.blk
  rw [e, h2] at h1
  cases h1
theorem StAt.ne2 (h : StAt w W g b1 b2 room last m) : g ≠ b2 := by
  obtain ⟨es, clock, hm⟩ := h.keys
  intro e
  have h1 := h.blk
  have h2 := hm.blk
  rw [e, h2] at h1
  cases h1
theorem StAt.lenAt (h : StAt w W g b1 b2 room last m) (n : Nat) : (Builtin.len_ #[98] 3 #[.map (some b1)]).run Try.prog (W.drewN n) = .ok (.int .i64 (m.length : Nat)) (W.drewN n) := by
  rw [← entL_len m]
  exact (h.map.below (Drawn0.below ⟨n, rfl⟩)).len Try.underlying98 _
theorem NewS_yes (room : Int) (w : World) (h1 : 1 ≤ room) (h2 : room ≤ 400) : Calls Try.prog 12 #[.int .i64 room] w fun e W => ∃ g b1 b2, e = .returned (.pointer (some ⟨g, 0, none⟩)) ∧ StAt w W g b1 b2 room 0 [] := by
  have hmm := @run_makeMap Try.prog
  go_enter Try.func12, Try.ntmps12
  go_wp2
  go_ret
  have hg := heap_alloc_new ((w.alloc (.map #[] 0)).alloc (.map #[] 0)) (.cells #[.int .i64 room, .int .i64 0, .map (some w.heap.size), .map (some (w.heap.size + 1))] 101)
  rw [show ((w.alloc (.map #[] 0)).alloc (.map #[] 0)).heap.size = w.heap.size + 2 by simp] at hg
  have hk := IsMap.made (P := Try.prog) (w.alloc (.map #[] 0)) 105
  rw [show (w.alloc (.map #[] 0)).heap.size = w.heap.size + 1 by simp] at hk
  have hb := below_alloc (Below.refl (w.alloc (.map #[] 0)).heap.size (w.alloc (.map #[] 0))) (.map #[] 0)
  have hb2 := below_alloc (Below.refl ((w.alloc (.map #[] 0)).alloc (.map #[] 0)).heap.size ((w.alloc (.map #[] 0)).alloc (.map #[] 0))) (.cells #[.int .i64 room, .int .i64 0, .map (some w.heap.size), .map (some (w.heap.size + 1))] 101)
  refine ⟨w.heap.size + 2, w.heap.size, w.heap.size + 1, rfl, hg, ((IsMap.made w _).below hb).below hb2, hk.below hb2, by omega, by simp, by simp, by omega, Nat.le_refl _, by omega, below_alloc (below_alloc (below_alloc (Below.refl _ _) _) _) _, by simp, by simp, by omega⟩
theorem NewS_no (room : Int) (w : World) (h : ¬ (1 ≤ room ∧ room ≤ 400)) : Calls Try.prog 12 #[.int .i64 room] w fun e W => e = .returned (.pointer none) ∧ Below w.heap.size w W := by
  by_cases h1 : room < 1
  · go_enter Try.func12, Try.ntmps12
    go_wp2
    go_ret
    exact ⟨rfl, Below.refl _ _⟩
  · have h2 : 400 < room := by omega
    clear h
    go_enter Try.func12, Try.ntmps12
    go_wp2
    go_ret
    exact ⟨rfl, Below.refl _ _⟩
set_option maxRecDepth 100000 in
theorem StAt.Len_any (h : StAt w W g b1 b2 room last m) : Calls Try.prog 17 #[.pointer (some ⟨g, 0, none⟩)] W fun e W2 => e = .returned (.int .i64 (m.length : Nat)) ∧ W2 = W := by
  have k2 := (show W.cell? ⟨g, 2, none⟩ = some (.map (some b1)) from blk_cell h.blk 2)
  have hlen := h.lenAt 0
  have hlen' : (Builtin.len_ #[98] 3 #[.map (some b1)]).run Try.prog W = .ok (.int .i64 (m.length : Nat)) W := hlen
  clear h hlen
  go_enter Try.func17, Try.ntmps17
  go_wp2_with fail
  go_ret
  exact ⟨rfl, rfl⟩
set_option maxRecDepth 100000 in
theorem StAt.Room_any (h : StAt w W g b1 b2 room last m) : Calls Try.prog 47 #[.pointer (some ⟨g, 0, none⟩)] W fun e W2 => e = .returned (.int .i64 room) ∧ W2 = W := by
  have k0 := (show W.cell? ⟨g, 0, none⟩ = some (.int .i64 room) from blk_cell h.blk 0)
  clear h
  go_enter Try.func47, Try.ntmps47
  go_wp2_with fail
  go_ret
  exact ⟨rfl, rfl⟩
theorem LenS_nil (W : World) : Calls Try.prog 17 #[.pointer none] W fun e W2 => e = .returned (.int .i64 0) ∧ W2 = W := by
  go_enter Try.func17, Try.ntmps17
  go_wp2_with fail
  go_ret
  exact ⟨rfl, rfl⟩
theorem RoomS_nil (W : World) : Calls Try.prog 47 #[.pointer none] W fun e W2 => e = .returned (.int .i64 0) ∧ W2 = W := by
  go_enter Try.func47, Try.ntmps47
  go_wp2_with fail
  go_ret
  exact ⟨rfl, rfl⟩
theorem DropS_nil (id : Int) (W : World) : Calls Try.prog 16 #[.pointer none, .int .i64 id] W fun e W2 => e = .returned (.int .i64 1) ∧ W2 = W := by
  go_enter Try.func16, Try.ntmps16
  go_wp2_with fail
  go_ret
  exact ⟨rfl, rfl⟩
theorem idsS_nil (f : Value) (W : World) : Calls Try.prog 66 #[.pointer none, f] W fun e W2 => e = .returned (.slice none 0 0) ∧ Below W.heap.size W W2 := by
  go_enter Try.func66, Try.ntmps66
  go_wp2_with fail
  go_ret
  exact ⟨rfl, Below.refl _ _⟩
set_option maxRecDepth 100000 in
theorem GetS_nil (id : Int) (W : World) : Calls Try.prog 41 #[.pointer none, .int .i64 id] W fun e W2 => e = .returned (.tuple #[.agg zeroE, .bool false]) ∧ Below W.heap.size W W2 := by
  have HY := Aside0.mk (heap_alloc_new W (.cells zeroE 32))
  have HB := Aside0.mk (below_alloc (Below.refl W.heap.size W) (.cells zeroE 32))
  go_enter Try.func41, Try.ntmps41
  go_wp2_with (refine store_own rfl 32 (.tmp 4) (.tmp 10) rfl W.heap.size zeroE rfl rfl 32 _ HY.out info32z rfl (ent_one _ _ _ _ _ _ _ _ _) ?_; intro W5 hW5 hb5 hk5; have H5 := Aside0.mk hW5; have HB5 := Aside0.mk hb5; clear hW5 hb5 hk5)
  refine bodyPost_ret (v := .tuple #[.agg zeroE, .bool false]) (results_list (rs := [.cell 4 32, .tmp 5]) rfl (by simp) (.cell W.heap.size 32 _ (0, 0) _ rfl H5.out Try.underlying32 rfl info32z (.tmp .nil))) rfl ?_
  exact ⟨rfl, below_weaken HB.out (Nat.le_refl _) HB5.out⟩
end
end Go.Proofs.Ytcddajdjmlmpdaa.Print
