/- store: Drop. -/
import Derived.Test.YtcddajdjmlmpdaaPrK
import Derived.Test.YtcddajdjmlmpdaaMaMaps1
import Derived.Test.YtcddajdjmlmpdaaMaNet1
import Derived.Test.YtcddajdjmlmpdaaMaNet2
import Derived.Test.YtcddajdjmlmpdaaMaNet3
import Derived.Test.YtcddajdjmlmpdaaMaStore1
import Derived.Test.YtcddajdjmlmpdaaMaStore3
import Derived.Test.YtcddajdjmlmpdaaMaStore4
import Derived.Test.YtcddajdjmlmpdaaPr57
import Derived.Test.YtcddajdjmlmpdaaMaStore4
import Derived.Test.YtcddajdjmlmpdaaPr57
import Derived.IntWalk
import Derived.BigQuiet
import Derived.Deep.QuietTactic
import Derived.Deep.RegionLaw
import Derived.Deep.RegionHeld3
import Derived.RegionTactic
import Derived.StillTailTactics
import Derived.Outline
import Derived.Laws.CopyOwn
namespace Go.Proofs.Ytcddajdjmlmpdaa.Print
open Go.RowKit Go.Proofs.YtcddajdjmlmpdaaW.PrintWords Go.Proofs.YtcddajdjmlmpdaaW.PrintLast Go.Proofs.YtcddajdjmlmpdaaW.PrintMore
open Go.ChangeMaps (setBlock)
open Go.Maps (Keyed)
set_option linter.unusedVariables false
set_option linter.unusedSimpArgs false

theorem zeroEn (w : World) : (zeroValue 32).run Try.prog w = .ok (.agg zeroE) w := by kernel_rfl
/-- A delete from a map, where the region draws. -/
theorem step_drop {P : Program} {o : Oper} {ops : Array Oper} {a : Act} {w : World} {Kc : Act → World → Prop} {Q : Exit → Act → World → Prop} (hw : Region.wanted o (yielded ops a.tmps) = true) (mo x : Operand) (t k : TypeId) (hop : o.op = Op.call { callee := Callee.builtin Builtin.delete, args := #[mo, x], argTypes := #[t, k] }) (w' : World)
    (hrun : (Builtin.delete_ #[t, k] o.type #[a.eval mo, a.eval x]).run P w = .ok (.tuple #[]) w') (hK : Kc (a.put o.dst (.tuple #[])) w') : if Region.wanted o (yielded ops a.tmps) = true then Oper.wp P o a w Kc Q else Kc (a.put o.dst undef) w := by
  rw [if_pos hw]
  unfold Oper.wp
  simp [execOp, hop, resolve, invoke, builtin, hrun, Result.andThen]
  exact hK
/-- What stands at a number. -/
def atS (m : SMs) (id : Int) : Option (En × Value) := m.find? fun p => decide (p.1.f0 = id)
theorem atS_some {m : SMs} {id : Int} {p : En × Value} (h : atS m id = some p) : p ∈ m ∧ p.1.f0 = id := by
  unfold atS at h
  have h1 := List.find?_some h
  exact ⟨List.mem_of_find?_eq_some h, of_decide_eq_true h1⟩
theorem atS_none {m : SMs} {id : Int} (h : atS m id = none) : ∀ p ∈ m, p.1.f0 ≠ id := fun p hp e => (List.find?_eq_none.1 h p hp) (decide_eq_true e)
def dropS (m : SMs) (id : Int) : SMs := m.filter fun p => decide (p.1.f0 ≠ id)
theorem dropS_none {m : SMs} {id : Int} (h : atS m id = none) : dropS m id = m := List.filter_eq_self.2 (fun p hp => decide_eq_true (atS_none h p hp))
theorem entL_erase {m : SMs} {id : Int} {v : Value} {j : Nat} (hn : (m.map (·.1.f0)).Pairwise (· < ·)) (h : (entL m)[j]? = some (.int .i64 id, v)) : (entL m).eraseIdx j = entL (dropS m id) := by
  unfold entL at h ⊢
  rw [List.getElem?_map] at h
  obtain ⟨p, hp, e⟩ := Option.map_eq_some_iff.1 h
  have hid : p.1.f0 = id := by
    injection e with e1 e2
    injection e1
  rw [← Go.ChangeMaps.map_eraseIdx]
  congr 1
  rw [filter_erase (fun p : En × Value => p.1.f0) m j p (pw_nodup hn) hp, hid]
  rfl
theorem entK_erase {m : SMs} {id : Int} {k : Value} {j : Nat} (hn : (m.map (·.1.f0)).Pairwise (· < ·)) (h : (entK m)[j]? = some (k, .int .i64 id)) : (entK m).eraseIdx j = entK (dropS m id) := by
  unfold entK at h ⊢
  rw [List.getElem?_map] at h
  obtain ⟨p, hp, e⟩ := Option.map_eq_some_iff.1 h
  have hid : p.1.f0 = id := by
    injection e with e1 e2
    injection e2
  rw [← Go.ChangeMaps.map_eraseIdx]
  congr 1
  rw [filter_erase (fun p : En × Value => p.1.f0) m j p (pw_nodup hn) hp, hid]
  rfl
section
variable {w W W2 : World} {g b1 b2 : Nat} {room last : Int} {m : SMs}
/-- The blocks that acts on a store write. -/
def FootS (W : World) (k : Nat) : Prop := (∃ es c, W.heap[k]? = some (.map es c)) ∨ (∃ cells, W.heap[k]? = some (.cells cells 101 (0, 0)))
structure StDid (w W W2 : World) (g b1 b2 : Nat) (room last : Int) (m : SMs) : Prop where
  st : StAt w W2 g b1 b2 room last m
  kept : Kept W W2 (FootS W)
theorem StAt.footB1 (h : StAt w W g b1 b2 room last m) : FootS W b1 := by
  obtain ⟨es, clock, hm⟩ := h.map
  exact .inl ⟨es, clock, hm.blk⟩
theorem StAt.footB2 (h : StAt w W g b1 b2 room last m) : FootS W b2 := by
  obtain ⟨es, clock, hm⟩ := h.keys
  exact .inl ⟨es, clock, hm.blk⟩
theorem StAt.footG (h : StAt w W g b1 b2 room last m) : FootS W g := .inr ⟨_, h.blk⟩
theorem StAt.stay (h : StAt w W g b1 b2 room last m) (hb : Below W.heap.size W W2) : StDid w W W2 g b1 b2 room last m := ⟨h.below hb, Kept.of_below hb _⟩
theorem footS_not {W : World} {b t : Nat} {cells : Array Value} (h : W.heap[b]? = some (.cells cells t (0, 0))) (h1 : t ≠ 101) : ¬ FootS W b := by
  rintro (⟨es, c, hc⟩ | ⟨c, hc⟩)
  · rw [h] at hc
    cases hc
  · rw [h] at hc
    injection hc with hc
    injection hc with _ hc
    exact h1 hc
set_option maxRecDepth 100000 in
theorem StAt.Drop_no (h : StAt w W g b1 b2 room last m) (id : Int) (hw : (Lit.int .i64 id).wf = true) (hn : atS m id = none) : Calls Try.prog 16 #[.pointer (some ⟨g, 0, none⟩), .int .i64 id] W fun e W2 => e = .returned (.int .i64 4) ∧ Below W.heap.size W W2 := by
  have hrun := h.map.lookup_no intK Try.underlying98 (zeroEn _) (keyI hw) (fun p hp e => by
    obtain ⟨q, hq, rfl⟩ := List.mem_map.1 hp
    injection e with _ e
    exact atS_none hn q hq e) true
  have hrun' : (Instr.lookup 98 (.map (some b1)) (.int .i64 id) true).run Try.prog W = .ok (.tuple #[.agg zeroE, .bool false]) W := hrun
  have k2 := (show W.cell? ⟨g, 2, none⟩ = some (.map (some b1)) from blk_cell h.blk 2)
  clear h hrun
  go_enter Try.func16, Try.ntmps16
  go_wp2_with fail
  go_ret
  exact ⟨rfl, below_alloc (Below.refl _ _) _⟩
set_option maxHeartbeats 1600000 in
set_option maxRecDepth 100000 in
theorem StAt.Drop_yes (h : StAt w W g b1 b2 room last m) (id : Int) (hw : (Lit.int .i64 id).wf = true) (p : En × Value) (hp : atS m id = some p) : Calls Try.prog 16 #[.pointer (some ⟨g, 0, none⟩), .int .i64 id] W fun e W2 => e = .returned (.int .i64 0) ∧ StDid w W W2 g b1 b2 room last (dropS m id) := by
  obtain ⟨hpm, hpi⟩ := atS_some hp
  obtain ⟨x, V⟩ := p
  have hrow := h.rows _ hpm
  have hok := h.ok _ hpm
  obtain ⟨A, c, hV⟩ := Kd.R_slice hrow
  have hV' : V = .slice A x.f3.length c := hV
  subst hV'
  have hid : x.f0 = id := hpi
  subst hid
  have hin1 : (Value.int .i64 x.f0, Value.agg (entC x (.slice A x.f3.length c))) ∈ entL m := List.mem_map.2 ⟨_, hpm, rfl⟩
  have hin2 : (keyV x, Value.int .i64 x.f0) ∈ entK m := List.mem_map.2 ⟨_, hpm, rfl⟩
  have hrun := h.map.lookup_yes intK Try.underlying98 (keyI hw) hin1 true
  have hrun' : (Instr.lookup 98 (.map (some b1)) (.int .i64 x.f0) true).run Try.prog W = .ok (.tuple #[.agg (entC x (.slice A x.f3.length c)), .bool true]) W := hrun
  have k2 := (show W.cell? ⟨g, 2, none⟩ = some (.map (some b1)) from blk_cell h.blk 2)
  have H0 := Aside0.mk h
  have HI1 := Aside0.mk hin1
  have HI2 := Aside0.mk hin2
  have HOK := Aside0.mk hok
  have HRW := Aside0.mk hrow
  clear h hrun hin1 hin2 hok hrow hp hpm hpi hV
  go_enter Try.func16, Try.ntmps16
  go_upto_region 6 with fail
  have HX1 := Aside0.mk (heap_alloc_new W (.cells (entC x (.slice A x.f3.length c)) 32))
  have H1 := Aside0.mk (H0.out.below (below_alloc (Below.refl _ _) (.cells (entC x (.slice A x.f3.length c)) 32)))
  have HBA := Aside0.mk (below_alloc (Below.refl W.heap.size W) (.cells (entC x (.slice A x.f3.length c)) 32))
  generalize W.alloc (.cells (entC x (.slice A x.f3.length c)) 32) = W1 at HX1 H1 HBA ⊢
  clear k2 hrun'
  have k2 := (show W1.cell? ⟨g, 2, none⟩ = some (.map (some b1)) from blk_cell H1.out.blk 2)
  go_upto_region 7 with (at_delete; refine wpList_drop_yes rfl (.tmp 23) (.tmp 24) 98 3 32 rfl intK Try.underlying98 rfl H1.out.map (.int .i64 x.f0) _ _ rfl (keyI hw) HI1.out ?_; intro ob j hj hmp; rw [entL_erase H1.out.rise hj] at hmp; have HM := Aside0.mk hmp; have HBL := Aside0.mk (setBlock_below H1.out.bel H1.out.b1ge ob); have HX2 := Aside0.mk ((setBlock_ne _ (Ne.symm (Nat.ne_of_lt H0.out.map.lt)) ob).trans HX1.out); have HG2 := Aside0.mk ((setBlock_ne _ H1.out.ne1 ob).trans H1.out.blk); have HKM := Aside0.mk (H1.out.keys.move (setBlock_ne _ H1.out.ne.symm ob)); have HKB := Aside0.mk (setBlock_keep W1 b1 ob); clear hmp hj; generalize setBlock W1 b1 ob = W2 at HM HBL HX2 HG2 HKM HKB ⊢)
  have hne1 : ∀ k (cells : Array Value) q, W.heap[k]? = some (.cells cells q (0, 0)) → k ≠ b1 ∧ k ≠ b2 := by
    intro k cells q hk
    constructor
    · intro e
      obtain ⟨es, clock, hm⟩ := H0.out.map
      rw [e, hm.blk] at hk
      cases hk
    · intro e
      obtain ⟨es, clock, hm⟩ := H0.out.keys
      rw [e, hm.blk] at hk
      cases hk
  have HNE := Aside0.mk hne1
  have HC2 := Aside0.mk (fun k (hk : k < W.heap.size) (h1 : k ≠ b1) => (show W2.heap[k]? = W.heap[k]? from (HKB.out.2 k (Nat.lt_of_lt_of_le hk HBA.out.size) h1 (by simp)).trans (HBA.out.block k hk)))
  have HRW2 := Aside0.mk (rows_move (show Kd.R (Kd.int .i64) 3 W w.heap.size (fun _ => True) (.slice A x.f3.length c) x.f3 from HRW.out) (fun k cells q hk => HC2.out k (blk_lt hk) (HNE.out k cells q hk).1))
  have HSZ := Aside0.mk (Nat.le_trans HBA.out.size HKB.out.1)
  clear k2 hne1 HX1 HKB HRW
  have k3 := (show W2.cell? ⟨g, 3, none⟩ = some (.map (some b2)) from blk_cell HG2.out 3)
  have c0 := (show W2.cell? ⟨W.heap.size, 0, none⟩ = some (.int .i64 x.f0) from blk_cell HX2.out 0)
  have c1 := (show W2.cell? ⟨W.heap.size, 1, none⟩ = some (.int .i64 x.f1) from blk_cell HX2.out 1)
  have c2 := (show W2.cell? ⟨W.heap.size, 2, none⟩ = some (.int .i64 x.f2.f0) from blk_cell HX2.out 2)
  have c3 := (show W2.cell? ⟨W.heap.size, 3, none⟩ = some (.int .i64 x.f2.f1) from blk_cell HX2.out 3)
  have c4 := (show W2.cell? ⟨W.heap.size, 4, none⟩ = some (.string x.f2.f2) from blk_cell HX2.out 4)
  have c5 := (show W2.cell? ⟨W.heap.size, 5, none⟩ = some (.slice A x.f3.length c) from blk_cell HX2.out 5)
  have c6 := (show W2.cell? ⟨W.heap.size, 6, none⟩ = some (.string x.f4) from blk_cell HX2.out 6)
  obtain ⟨lk, hlk⟩ := EnOk.key HOK.out
  have HLK := Aside0.mk hlk
  clear hlk
  go_region_law (first
    | (refine goes_ Try.func57 (by kernel_rfl) rfl #[.agg #[.int .i64 x.f0, .int .i64 x.f1, .int .i64 x.f2.f0, .int .i64 x.f2.f1, .string x.f2.f2, .slice A x.f3.length c, .string x.f4]] (by rfl) rfl rfl (by (try simp only [List.map_toArray, List.map_cons, List.map_nil]); first | done | rfl) ?_; refine (store_of.calls x.f0 x.f1 x.f2.f0 x.f2.f1 x.f2.f2 A c x.f3 x.f4 x.f1 x.f2.f0 x.f2.f1 x.f2.f2 _ (Kd.C_below (Kd.R_reads' HRW2.out).2.2 (by repeat (first | (with_reducible first | exact Below.refl _ _ | apply below_alloc | apply pw_below_drewN | apply below_drew1) | exact Below.refl _ _))) (Kd.R_reads' HRW2.out).2.1 rfl).mono ?_; rintro e w7 ⟨rfl, hb7⟩; refine ⟨_, rfl, ?_⟩; have hbb := (below_step (by repeat (first | (with_reducible first | exact Below.refl _ _ | apply below_alloc | apply pw_below_drewN | apply below_drew1) | exact Below.refl _ _)) hb7 : Below W2.heap.size W2 w7); have HB7 := Aside0.mk hbb; have HK7 := Aside0.mk (HKM.out.below hbb); have k3 := (show w7.cell? ⟨g, 3, none⟩ = some (.map (some b2)) from blk_cell (blk_below HG2.out hbb) 3); clear hb7 hbb)
    | (obtain ⟨ob2, j2, hj2, hrun2, hmp2⟩ := HK7.out.drop_yes keyedK Try.underlying99 HLK.out HI2.out 0; refine step_drop (by rfl) (.tmp 28) (.tmp 30) 99 105 rfl (setBlock w7 b2 ob2) hrun2 ?_; rw [entK_erase H0.out.rise hj2] at hmp2; have HMP2 := Aside0.mk hmp2; clear hj2 hrun2 hmp2))
  all_goals
    go_wp2_with fail
    go_ret
    have hcell : ∀ k, k < W.heap.size → k ≠ b1 → k ≠ b2 → (setBlock w7 b2 ob2).heap[k]? = W.heap[k]? := fun k hk h1 h2 => (setBlock_ne _ h2 ob2).trans ((HB7.out.block k (Nat.lt_of_lt_of_le hk HSZ.out)).trans (HC2.out k hk h1))
    have hkm := HM.out.below HB7.out
    refine ⟨rfl, ⟨(setBlock_ne _ H0.out.ne2 ob2).trans (blk_below HG2.out HB7.out), hkm.move (setBlock_ne _ H0.out.ne ob2), HMP2.out, H0.out.ne, fun p hp => ?_, fun p hp => H0.out.ok p (List.mem_filter.1 hp).1, H0.out.ge, H0.out.b1ge, H0.out.b2ge, setBlock_below (below_step HBL.out HB7.out) H0.out.b2ge ob2, H0.out.rise.sublist (List.filter_sublist.map _), fun p hp => H0.out.top p (List.mem_filter.1 hp).1, H0.out.lo⟩, ?_⟩
    · exact rows_move (H0.out.rows p (List.mem_filter.1 hp).1) (fun k cells q hk => hcell k (blk_lt hk) (HNE.out k cells q hk).1 (HNE.out k cells q hk).2)
    · exact ⟨Nat.le_trans HSZ.out (Nat.le_trans HB7.out.size (by rw [setBlock_size]; exact Nat.le_refl _)), fun i hi hn => hcell i hi (fun e => hn (e ▸ H0.out.footB1)) (fun e => hn (e ▸ H0.out.footB2))⟩
theorem StAt.Drop_any (h : StAt w W g b1 b2 room last m) (id : Int) (hw : (Lit.int .i64 id).wf = true) : Calls Try.prog 16 #[.pointer (some ⟨g, 0, none⟩), .int .i64 id] W fun e W2 => e = .returned (.int .i64 (if (atS m id).isSome then 0 else 4)) ∧ StDid w W W2 g b1 b2 room last (dropS m id) := by
  match hx : atS m id with
  | none =>
    rw [dropS_none hx]
    refine (h.Drop_no id hw hx).mono ?_
    rintro e W2 ⟨rfl, hb⟩
    exact ⟨rfl, h.stay hb⟩
  | some p => exact h.Drop_yes id hw p hx
end
end Go.Proofs.Ytcddajdjmlmpdaa.Print
