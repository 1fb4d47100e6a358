/- store: Of, Get of a store. -/
import Derived.Test.YtcddajdjmlmpdaaPrK
import Derived.Test.YtcddajdjmlmpdaaMaNet1
import Derived.Test.YtcddajdjmlmpdaaMaNet2
import Derived.Test.YtcddajdjmlmpdaaMaSort1
import Derived.Test.YtcddajdjmlmpdaaMaStore3
import Derived.Test.YtcddajdjmlmpdaaMaStore4
import Derived.Test.YtcddajdjmlmpdaaMaStore5
import Derived.Test.YtcddajdjmlmpdaaMaStore8
import Derived.Test.YtcddajdjmlmpdaaMaStore8
import Derived.IntWalk
import Derived.BigQuiet
import Derived.Deep.QuietTactic
import Derived.Deep.RegionLaw
import Derived.Deep.RegionHeld3
import Derived.RegionTactic
import Derived.StillTailTactics
import Derived.Outline
import Derived.Laws.CopyOwn
import Derived.Shelf.GgClosure.Gives
namespace Go.Proofs.Ytcddajdjmlmpdaa.Print
open Go.RowKit Go.Proofs.YtcddajdjmlmpdaaW.PrintWords Go.Proofs.YtcddajdjmlmpdaaW.PrintLast Go.Proofs.YtcddajdjmlmpdaaW.PrintMore
open Go.ChangeMaps (setBlock)
open Go.Maps (Keyed)
set_option linter.unusedVariables false
set_option linter.unusedSimpArgs false

set_option maxRecDepth 100000 in
theorem Of1_calls (W : World) (x : En) (A : Option Addr) (n c bb : Nat) (peer : Int) (hb : W.heap[bb]? = some (.cells #[.int .i64 peer] 3 (0, 0))) :
    Calls Try.prog 68 #[.agg #[.int .i64 x.f0, .int .i64 x.f1, .int .i64 x.f2.f0, .int .i64 x.f2.f1, .string x.f2.f2, .slice A n c, .string x.f4], .pointer (some ⟨bb, 0, none⟩)] W fun e W3 => e = .returned (.bool (x.f1 == peer)) ∧ Below W.heap.size W W3 := by
  have c0 := (show W.cell? ⟨bb, 0, none⟩ = some (.int .i64 peer) from blk_cell hb 0)
  have c1 := (show (W.alloc (.cells #[.int .i64 x.f0, .int .i64 x.f1, .int .i64 x.f2.f0, .int .i64 x.f2.f1, .string x.f2.f2, .slice A n c, .string x.f4] 32)).cell? ⟨bb, 0, none⟩ = some (.int .i64 peer) from blk_cell (blk_alloc hb _) 0)
  have hne : ¬ W.heap.size = bb := Ne.symm (Nat.ne_of_lt (blk_lt hb))
  clear hb
  go_enter Try.func68, Try.ntmps68
  go_wp2_with fail
  go_ret
  exact ⟨rfl, by repeat (first | (with_reducible first | exact Below.refl _ _ | apply below_alloc | apply pw_below_drewN | apply below_drew1) | exact Below.refl _ _)⟩
set_option maxRecDepth 100000 in
theorem All1_calls (W : World) (x : En) (A : Option Addr) (n c : Nat) :
    Calls Try.prog 67 #[.agg #[.int .i64 x.f0, .int .i64 x.f1, .int .i64 x.f2.f0, .int .i64 x.f2.f1, .string x.f2.f2, .slice A n c, .string x.f4]] W fun e W3 => e = .returned (.bool true) ∧ Below W.heap.size W W3 := by
  go_enter Try.func67, Try.ntmps67
  go_wp2_with fail
  go_ret
  exact ⟨rfl, by repeat (first | (with_reducible first | exact Below.refl _ _ | apply below_alloc | apply pw_below_drewN | apply below_drew1) | exact Below.refl _ _)⟩
section
variable {w W W2 : World} {g b1 b2 : Nat} {room last : Int} {m : SMs}
theorem StAt.ids_any (h : StAt w W g b1 b2 room last m) (hm : m.length < 1000000) (cl : Nat) (lb : Array Value) (p : En → Bool) (eg : ∀ args w, (callFunc cl args).run Try.prog w = .ok (.enter cl args) w)
    (hc : ∀ (W' : World) (q : En × Value), q ∈ m → Below W.heap.size W W' → Calls Try.prog cl (#[.agg (entC q.1 q.2)] ++ lb) W' fun e W3 => e = .returned (.bool (p q.1)) ∧ Below W'.heap.size W' W3) :
    Calls Try.prog 66 #[.pointer (some ⟨g, 0, none⟩), .func (.func cl) #[] lb] W fun e W2 => ∃ v, e = .returned v ∧ Kd.R (Kd.int .i64) 3 W2 W.heap.size (fun _ => True) v (idsS p m) ∧ Below W.heap.size W W2 :=
  h.ids_loop hm cl lb p eg hc (fun W' v acc hb hr hl => sort_calls hb hr hl)
theorem StAt.sl (h : StAt w W g b1 b2 room last m) {q : En × Value} (hq : q ∈ m) : ∃ ad c, q.2 = .slice (some ad) q.1.f3.length c := Kd.R_slice1 (h.rows q hq) (h.ok q hq).l.1
theorem StAt.all_any (h : StAt w W g b1 b2 room last m) (hm : m.length < 1000000) :
    Calls Try.prog 66 #[.pointer (some ⟨g, 0, none⟩), .func (.func 67) #[] #[]] W fun e W2 => ∃ v, e = .returned v ∧ Kd.R (Kd.int .i64) 3 W2 W.heap.size (fun _ => True) v (m.map (·.1.f0)) ∧ Below W.heap.size W W2 := by
  have := h.ids_any hm 67 #[] (fun _ => true) (enters_of Try.func67 (by kernel_rfl) rfl) (fun W' q hq hb => by
    obtain ⟨x, V⟩ := q
    obtain ⟨ad, c, hV⟩ := h.sl hq
    have hV' : V = .slice (some ad) x.f3.length c := hV
    subst hV'
    exact All1_calls W' x _ _ _)
  rw [show idsS (fun _ => true) m = m.map (·.1.f0) by unfold idsS; rw [List.filter_eq_self.2 (by simp)]] at this
  exact this
theorem StAt.Of_any (h : StAt w W g b1 b2 room last m) (hm : m.length < 1000000) (peer : Int) :
    Calls Try.prog 46 #[.pointer (some ⟨g, 0, none⟩), .int .i64 peer] W fun e W2 => ∃ v, e = .returned v ∧ Kd.R (Kd.int .i64) 3 W2 W.heap.size (fun _ => True) v (idsS (fun x => x.f1 == peer) m) ∧ Below W.heap.size W W2 := by
  have hbx := heap_alloc_new W (.cells #[.int .i64 peer] 3)
  have hb1 := below_alloc (Below.refl W.heap.size W) (.cells #[.int .i64 peer] 3)
  have H := Aside0.mk ((h.below hb1).ids_any hm 68 #[.pointer (some ⟨W.heap.size, 0, none⟩)] (fun x => x.f1 == peer) (enters_of Try.func68 (by kernel_rfl) rfl) (fun W' q hq hb => by
    obtain ⟨x, V⟩ := q
    obtain ⟨ad, c, hV⟩ := h.sl hq
    have hV' : V = .slice (some ad) x.f3.length c := hV
    subst hV'
    exact Of1_calls W' x _ _ _ W.heap.size peer (blk_below hbx hb)))
  have HB := Aside0.mk hb1
  clear h hbx hb1
  go_enter Try.func46, Try.ntmps46
  go_wp2_with fail
  refine H.out.mono ?_
  rintro e W2 ⟨v, rfl, hr, hb⟩
  have HR := Aside0.mk hr
  have HB2 := Aside0.mk hb
  clear hr hb
  go_wp2_with fail
  go_ret
  exact ⟨_, rfl, Kd.R_lower HR.out HB.out.size, below_step HB.out HB2.out⟩
abbrev zeroX : En := ⟨0, 0, ⟨0, 0, ⟨#[]⟩⟩, [], ⟨#[]⟩⟩
set_option maxHeartbeats 1600000 in
set_option maxRecDepth 100000 in
theorem StAt.Get_no (h : StAt w W g b1 b2 room last m) (id : Int) (hw : (Lit.int .i64 id).wf = true) (hn : atS m id = none) : Calls Try.prog 41 #[.pointer (some ⟨g, 0, none⟩), .int .i64 id] W fun e W2 => e = .returned (.tuple #[.agg zeroE, .bool false]) ∧ Below W.heap.size W W2 := by
  have hb1 := below_alloc (Below.refl W.heap.size W) (.cells zeroE 32)
  have HY := Aside0.mk (heap_alloc_new W (.cells zeroE 32))
  have hrun := (h.map.below hb1).lookup_no intK Try.underlying98 (zeroEn _) (keyI hw) (fun p hp e => by
    obtain ⟨q, hq, rfl⟩ := List.mem_map.1 hp
    injection e with _ e
    exact atS_none hn q hq e) true
  have k2 := (show (W.alloc (.cells zeroE 32)).cell? ⟨g, 2, none⟩ = some (.map (some b1)) from blk_cell (blk_below h.blk hb1) 2)
  have HB1 := Aside0.mk hb1
  have hrun' : (Instr.lookup 98 (.map (some b1)) (.int .i64 id) true).run Try.prog (W.alloc (.cells zeroE 32)) = .ok (.tuple #[.agg zeroE, .bool false]) (W.alloc (.cells zeroE 32)) := hrun
  have k2' := (show W.cell? ⟨g, 2, none⟩ = some (.map (some b1)) from blk_cell h.blk 2)
  have hne : ¬ W.heap.size = g := Ne.symm (Nat.ne_of_lt (blk_lt h.blk))
  clear h hb1 hrun
  go_enter Try.func41, Try.ntmps41
  go_wp2_with fail
  refine (own_nil (x := zeroX) rfl).mono ?_
  rintro e W2 ⟨rfl, hb⟩
  have HY2 := Aside0.mk (blk_below (blk_alloc HY.out _) hb)
  have HB2 := Aside0.mk (below_step (below_alloc HB1.out _) hb)
  clear hb
  go_wp2_with (refine store_own rfl 32 (.tmp 4) (.tmp 21) rfl W.heap.size zeroE rfl rfl 32 _ HY2.out info32z rfl (ent_one _ _ _ _ _ _ _ _ _) ?_; intro W5 hW5 hb5 hk5; have H5 := Aside0.mk hW5; have HB5 := Aside0.mk hb5; clear hW5 hb5 hk5)
  refine bodyPost_ret (v := .tuple #[.agg zeroE, .bool false]) (results_list (rs := [.cell 4 32, .tmp 5]) rfl (by simp) (.cell W.heap.size 32 _ (0, 0) _ rfl H5.out Try.underlying32 rfl info32z (.tmp .nil))) rfl ?_
  exact ⟨rfl, below_weaken HB2.out (Nat.le_refl _) HB5.out⟩
end
end Go.Proofs.Ytcddajdjmlmpdaa.Print
