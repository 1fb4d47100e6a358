/- store: Get, DropPeer, With of a store. -/
import Derived.Test.YtcddajdjmlmpdaaPrK
import Derived.Test.YtcddajdjmlmpdaaMaNet1
import Derived.Test.YtcddajdjmlmpdaaMaNet2
import Derived.Test.YtcddajdjmlmpdaaMaStore3
import Derived.Test.YtcddajdjmlmpdaaMaStore4
import Derived.Test.YtcddajdjmlmpdaaMaStore5
import Derived.Test.YtcddajdjmlmpdaaMaStore6
import Derived.Test.YtcddajdjmlmpdaaMaStore9
import Derived.IntWalk
import Derived.BigQuiet
import Derived.Deep.QuietTactic
import Derived.Deep.RegionLaw
import Derived.Deep.RegionHeld3
import Derived.RegionTactic
import Derived.StillTailTactics
import Derived.Outline
import Derived.Laws.CopyOwn
import Derived.Shelf.GgClosure.Gives
namespace Go.Proofs.Ytcddajdjmlmpdaa.Print
open Go.RowKit Go.Proofs.YtcddajdjmlmpdaaW.PrintWords Go.Proofs.YtcddajdjmlmpdaaW.PrintLast Go.Proofs.YtcddajdjmlmpdaaW.PrintMore
open Go.ChangeMaps (setBlock)
open Go.Maps (Keyed)
set_option linter.unusedVariables false
set_option linter.unusedSimpArgs false

section
variable {w W W2 : World} {g b1 b2 : Nat} {room last : Int} {m : SMs}
set_option maxHeartbeats 1600000 in
set_option maxRecDepth 100000 in
theorem StAt.Get_yes (h : StAt w W g b1 b2 room last m) (id : Int) (hw : (Lit.int .i64 id).wf = true) (p : En × Value) (hn : atS m id = some p) : Calls Try.prog 41 #[.pointer (some ⟨g, 0, none⟩), .int .i64 id] W fun e W2 => ∃ A2 c2, e = .returned (.tuple #[.agg (entC p.1 (.slice A2 p.1.f3.length c2)), .bool true]) ∧ Kd.R (Kd.int .i64) 3 W2 W.heap.size (fun _ => True) (.slice A2 p.1.f3.length c2) p.1.f3 ∧ Below W.heap.size W W2 := by
  obtain ⟨hpm, hpi⟩ := atS_some hn
  obtain ⟨ad, c, hV⟩ := h.sl hpm
  have hrow := h.rows _ hpm
  have hok := h.ok _ hpm
  obtain ⟨x, V⟩ := p
  have hV' : V = .slice (some ad) x.f3.length c := hV
  subst hV'
  have hid : x.f0 = id := hpi
  subst hid
  have hin1 : (Value.int .i64 x.f0, Value.agg (entC x (.slice (some ad) x.f3.length c))) ∈ entL m := List.mem_map.2 ⟨_, hpm, rfl⟩
  have hb1 := below_alloc (Below.refl W.heap.size W) (.cells zeroE 32)
  have HY := Aside0.mk (heap_alloc_new W (.cells zeroE 32))
  have hrun := (h.map.below hb1).lookup_yes intK Try.underlying98 (keyI hw) hin1 true
  have k2 := (show (W.alloc (.cells zeroE 32)).cell? ⟨g, 2, none⟩ = some (.map (some b1)) from blk_cell (blk_below h.blk hb1) 2)
  have HB1 := Aside0.mk hb1
  have hrun' : (Instr.lookup 98 (.map (some b1)) (.int .i64 x.f0) true).run Try.prog (W.alloc (.cells zeroE 32)) = .ok (.tuple #[.agg (entC x (.slice (some ad) x.f3.length c)), .bool true]) (W.alloc (.cells zeroE 32)) := hrun
  have k2' := (show W.cell? ⟨g, 2, none⟩ = some (.map (some b1)) from blk_cell h.blk 2)
  have hne : ¬ W.heap.size = g := Ne.symm (Nat.ne_of_lt (blk_lt h.blk))
  have HR := Aside0.mk (show Kd.R (Kd.int .i64) 3 W w.heap.size (fun _ => True) (.slice (some ad) x.f3.length c) x.f3 from hrow)
  have HL := Aside0.mk (show x.f3.length < 1000000 from hok.l.2)
  clear h hb1 hrun hrow hok hin1 hpm hpi hn hV
  go_enter Try.func41, Try.ntmps41
  go_wp2_with fail
  refine (own_some (x := x) (Kd.C_below (Kd.R_reads' HR.out).2.2 (below_alloc HB1.out _)) HL.out).mono ?_
  rintro e W2 ⟨A2, c2, rfl, hr, hb⟩
  have HY2 := Aside0.mk (blk_below (blk_alloc HY.out _) hb)
  have HB2 := Aside0.mk (below_step (below_alloc HB1.out _) hb)
  have HR2 := Aside0.mk (Kd.R_bound (Kd.R_lower hr (below_alloc HB1.out (.cells (entC x (.slice (some ad) x.f3.length c)) 32)).size))
  clear hb hr
  go_wp2_with (refine store_own rfl 32 (.tmp 4) (.tmp 21) rfl W.heap.size (entC x (.slice A2 x.f3.length c2)) rfl rfl 32 _ HY2.out info32z rfl (ent_one _ _ _ _ _ _ _ _ _) ?_; intro W5 hW5 hb5 hk5; have H5 := Aside0.mk hW5; have HB5 := Aside0.mk hb5; have HK5 := Aside0.mk hk5; clear hW5 hb5 hk5)
  refine bodyPost_ret (v := .tuple #[.agg (entC x (.slice A2 x.f3.length c2)), .bool true]) (results_list (rs := [.cell 4 32, .tmp 5]) rfl (by simp) (.cell W.heap.size 32 _ (0, 0) _ rfl H5.out Try.underlying32 rfl info32z (.tmp .nil))) rfl ?_
  refine ⟨A2, c2, rfl, Kd.R_mono (Kd.R_keep HR2.out HK5.out (fun k hk e => ?_)) (fun _ _ => trivial), below_weaken HB2.out (Nat.le_refl _) HB5.out⟩
  obtain ⟨_, _, _, q, hq, cells, hc⟩ := hk
  rw [e, HY2.out] at hc
  injection hc with hc
  injection hc with _ hc
  rw [← hc] at hq
  revert hq
  decide
/-- A row's own block is of the row's type. -/
theorem own_exact {α : Type} {d : Kd α} {e base : Nat} {ok : Nat → Prop} {v : Value} {xs : List α} (h : Kd.R d e W base ok v xs) {k : Nat} (hk : v.ownBlock = some k) : ∃ cells, W.heap[k]? = some (.cells cells e (0, 0)) := by
  obtain ⟨_, inner, ho, _⟩ := h
  exact own_typed ho k hk
theorem ints_grownE {α : Type} {d : Kd α} {e base base2 : Nat} {ok ok2 : Nat → Prop} {v v3 : Value} {xs : List Int} {ys : List α} (h : Kd.R (Kd.int .i64) 3 W base ok v xs) (hr : Kd.R d e W base2 ok2 v3 ys) (he : e ≠ 3) (hg : W.grownBy W2 v3.ownBlock) : Kd.R (Kd.int .i64) 3 W2 base ok v xs :=
  ints_move (e := 0) h (fun k cells hk => hg.block k (blk_lt hk) (fun e1 => by
    obtain ⟨cells2, hc⟩ := own_exact hr e1.symm
    rw [hk] at hc
    injection hc with hc
    injection hc with _ hc
    exact he hc.symm))
/-- Entries are written beside a store. -/
theorem StAt.grownE {α : Type} {d : Kd α} {e base : Nat} {ok : Nat → Prop} {v : Value} {xs : List α} (h : StAt w W g b1 b2 room last m) (hr : Kd.R d e W base ok v xs) (he : e ≠ 3 ∧ e ≠ 101) (hg : W.grownBy W2 v.ownBlock) (hb : Below w.heap.size w W2) : StAt w W2 g b1 b2 room last m := by
  refine ⟨(hg.block g (blk_lt h.blk) ?_).trans h.blk, h.map.move (hg.block b1 h.map.lt ?_), h.keys.move (hg.block b2 h.keys.lt ?_), h.ne, fun p hp => ints_grownE (h.rows p hp) hr he.1 hg, h.ok, h.ge, h.b1ge, h.b2ge, hb, h.rise, h.top, h.lo⟩
  · intro e1
    obtain ⟨cells, hc⟩ := own_exact hr e1.symm
    rw [h.blk] at hc
    injection hc with hc
    injection hc with _ hc
    exact he.2 hc.symm
  · intro e1
    obtain ⟨cells, hc⟩ := own_exact hr e1.symm
    obtain ⟨es, clock, hm⟩ := h.map
    rw [hm.blk] at hc
    cases hc
  · intro e1
    obtain ⟨cells, hc⟩ := own_exact hr e1.symm
    obtain ⟨es, clock, hm⟩ := h.keys
    rw [hm.blk] at hc
    cases hc
theorem atS_mem (hr : (m.map (·.1.f0)).Pairwise (· < ·)) {p : En × Value} (hp : p ∈ m) : atS m p.1.f0 = some p := by
  match hx : atS m p.1.f0 with
  | none => exact absurd rfl (atS_none hx p hp)
  | some q =>
    obtain ⟨hq, e⟩ := atS_some hx
    clear hx
    induction m with
    | nil => cases hp
    | cons x t ih =>
      rw [List.map_cons, List.pairwise_cons] at hr
      rcases List.mem_cons.1 hp with h1 | h1 <;> rcases List.mem_cons.1 hq with h2 | h2
      · rw [h1, h2]
      · have := hr.1 q.1.f0 (List.mem_map.2 ⟨q, h2, rfl⟩)
        rw [h1] at e
        omega
      · have := hr.1 p.1.f0 (List.mem_map.2 ⟨p, h1, rfl⟩)
        rw [h2] at e
        omega
      · exact ih hr.2 h1 h2
end
end Go.Proofs.Ytcddajdjmlmpdaa.Print
