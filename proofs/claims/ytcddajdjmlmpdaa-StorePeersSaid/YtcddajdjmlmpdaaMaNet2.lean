/- net: find, Take, Lose, Twice, Len. -/
import Derived.Test.YtcddajdjmlmpdaaPrK
import Derived.Test.YtcddajdjmlmpdaaMaMaps1
import Derived.Test.YtcddajdjmlmpdaaMaNet1
import Derived.Test.YtcddajdjmlmpdaaMaNet1
import Derived.IntWalk
import Derived.BigQuiet
import Derived.Deep.QuietTactic
import Derived.Deep.RegionLaw
import Derived.Deep.RegionHeld3
import Derived.RegionTactic
import Derived.StillTailTactics
import Derived.Outline
import Derived.Laws.CopyOwn
namespace Go.Proofs.Ytcddajdjmlmpdaa.Print
open Go.RowKit Go.Proofs.YtcddajdjmlmpdaaW.PrintWords Go.Proofs.YtcddajdjmlmpdaaW.PrintLast Go.Proofs.YtcddajdjmlmpdaaW.PrintMore
open Go.ChangeMaps (setBlock)
open Go.Maps (Keyed)
set_option linter.unusedVariables false
set_option linter.unusedSimpArgs false

theorem zeroG (w : World) : (zeroValue 41).run Try.prog w = .ok (.agg #[.int .i64 0, .int .i64 0, .string ⟨#[]⟩]) w := by kernel_rfl
theorem info41z : (Try.prog.info? 41).map (·.size) = some 3 := by kernel_rfl
section
variable {w W W2 : World} {g b : Nat} {room last : Int} {m : NMs}
theorem find_nil (id : Int) (W : World) : Calls Try.prog 61 #[.pointer none, .int .i64 id] W fun e W2 => e = .returned (.tuple #[.agg #[.int .i64 0, .int .i64 0, .string ⟨#[]⟩], .int .i64 1]) ∧ Below W.heap.size W W2 := by
  go_enter Try.func61, Try.ntmps61
  go_wp2_with fail
  refine bodyPost_ret (v := .tuple #[.agg #[.int .i64 0, .int .i64 0, .string ⟨#[]⟩], .int .i64 1]) (results_list (rs := [.cell 4 41, .tmp 5]) rfl (by simp) (.cell W.heap.size 41 _ (0, 0) _ rfl (heap_alloc_new W _) Try.underlying41 rfl info41z (.tmp .nil))) rfl ?_
  exact ⟨rfl, below_alloc (Below.refl _ _) _⟩
set_option maxRecDepth 100000 in
theorem NetAt.find_no (h : NetAt w W g b room last m) (id : Int) (hw : (Lit.int .i64 id).wf = true) (hn : ∀ p ∈ m, p.1 ≠ id) : Calls Try.prog 61 #[.pointer (some ⟨g, 0, none⟩), .int .i64 id] W fun e W2 => e = .returned (.tuple #[.agg #[.int .i64 0, .int .i64 0, .string ⟨#[]⟩], .int .i64 4]) ∧ Below W.heap.size W W2 := by
  have hb1 := below_alloc (Below.refl W.heap.size W) (.cells #[.int .i64 0, .int .i64 0, .string ⟨#[]⟩] 41)
  have hrun := ((h.below hb1).map).lookup_no intK Try.underlying108 (zeroG _) (keyI hw) (fun p hp e => by
    obtain ⟨q, hq, rfl⟩ := List.mem_map.1 hp
    injection e with _ e
    exact hn q hq e) true
  have k2 := (show W.cell? ⟨g, 2, none⟩ = some (.map (some b)) from blk_cell h.blk 2)
  have k2' := (show (W.alloc (.cells #[.int .i64 0, .int .i64 0, .string ⟨#[]⟩] 41)).cell? ⟨g, 2, none⟩ = some (.map (some b)) from blk_cell (h.below hb1).blk 2)
  have hne : ¬ W.heap.size = g := Ne.symm (Nat.ne_of_lt (blk_lt h.blk))
  clear h hb1
  go_enter Try.func61, Try.ntmps61
  go_wp2_with fail
  refine bodyPost_ret (v := .tuple #[.agg #[.int .i64 0, .int .i64 0, .string ⟨#[]⟩], .int .i64 4]) (results_list (rs := [.cell 4 41, .tmp 5]) rfl (by simp) (.cell W.heap.size 41 _ (0, 0) _ rfl (blk_alloc (heap_alloc_new W _) _) Try.underlying41 rfl info41z (.tmp .nil))) rfl ?_
  exact ⟨rfl, below_alloc (below_alloc (Below.refl _ _) _) _⟩
set_option maxRecDepth 100000 in
theorem NetAt.find_yes (h : NetAt w W g b room last m) (id : Int) (hw : (Lit.int .i64 id).wf = true) (x : Gr) (hm : (id, x) ∈ m) : Calls Try.prog 61 #[.pointer (some ⟨g, 0, none⟩), .int .i64 id] W fun e W2 => e = .returned (.tuple #[.agg #[.int .i64 x.f0, .int .i64 x.f1, .string x.f2], .int .i64 0]) ∧ Below W.heap.size W W2 := by
  have hb1 := below_alloc (Below.refl W.heap.size W) (.cells #[.int .i64 0, .int .i64 0, .string ⟨#[]⟩] 41)
  have hrun := ((h.below hb1).map).lookup_yes intK Try.underlying108 (keyI hw) (v := .agg #[.int .i64 x.f0, .int .i64 x.f1, .string x.f2]) (List.mem_map.2 ⟨(id, x), hm, rfl⟩) true
  have k2 := (show W.cell? ⟨g, 2, none⟩ = some (.map (some b)) from blk_cell h.blk 2)
  have k2' := (show (W.alloc (.cells #[.int .i64 0, .int .i64 0, .string ⟨#[]⟩] 41)).cell? ⟨g, 2, none⟩ = some (.map (some b)) from blk_cell (h.below hb1).blk 2)
  have hne : ¬ W.heap.size = g := Ne.symm (Nat.ne_of_lt (blk_lt h.blk))
  clear h hb1
  go_enter Try.func61, Try.ntmps61
  go_wp2_with fail
  refine bodyPost_ret (v := .tuple #[.agg #[.int .i64 x.f0, .int .i64 x.f1, .string x.f2], .int .i64 0]) (results_list (rs := [.cell 4 41, .tmp 5]) rfl (by simp) (.cell W.heap.size 41 _ (0, 0) _ rfl (blk_alloc (heap_alloc_new W _) _) Try.underlying41 rfl info41z (.tmp .nil))) rfl ?_
  exact ⟨rfl, below_alloc (below_alloc (Below.refl _ _) _) _⟩
/-- What stands at a number. -/
def atN (m : NMs) (id : Int) : Option Gr := (m.find? fun p => decide (p.1 = id)).map (·.2)
theorem atN_some {id : Int} {x : Gr} (h : atN m id = some x) : (id, x) ∈ m := by
  unfold atN at h
  obtain ⟨p, hp, rfl⟩ := Option.map_eq_some_iff.1 h
  have h1 := List.find?_some hp
  have h2 : p.1 = id := of_decide_eq_true h1
  rw [← h2]
  exact List.mem_of_find?_eq_some hp
theorem atN_none {id : Int} (h : atN m id = none) : ∀ p ∈ m, p.1 ≠ id := by
  unfold atN at h
  rw [Option.map_eq_none_iff] at h
  intro p hp e
  exact (List.find?_eq_none.1 h p hp) (decide_eq_true e)
def gz : Gr := ⟨0, 0, ⟨#[]⟩⟩
def findC : Option Gr → Int
  | some _ => 0
  | none => 4
theorem NetAt.find_any (h : NetAt w W g b room last m) (id : Int) (hw : (Lit.int .i64 id).wf = true) : Calls Try.prog 61 #[.pointer (some ⟨g, 0, none⟩), .int .i64 id] W fun e W2 => e = .returned (.tuple #[.agg #[.int .i64 ((atN m id).getD gz).f0, .int .i64 ((atN m id).getD gz).f1, .string ((atN m id).getD gz).f2], .int .i64 (findC (atN m id))]) ∧ Below W.heap.size W W2 := by
  match hx : atN m id with
  | none => exact h.find_no id hw (atN_none hx)
  | some x => exact h.find_yes id hw x (atN_some hx)
def dropN (m : NMs) (id : Int) : NMs := m.filter fun p => decide (p.1 ≠ id)
theorem dropN_none {id : Int} (h : atN m id = none) : dropN m id = m := List.filter_eq_self.2 (fun p hp => decide_eq_true (atN_none h p hp))
theorem pw_nodup {l : List Int} (h : l.Pairwise (· < ·)) : l.Nodup := by
  rw [List.nodup_iff_pairwise_ne]
  exact h.imp (fun h => by omega)
theorem entV_erase {id : Int} {v : Value} {j : Nat} (hn : (m.map (·.1)).Pairwise (· < ·)) (h : (entV m)[j]? = some (.int .i64 id, v)) : (entV m).eraseIdx j = entV (dropN m id) := by
  unfold entV at h ⊢
  rw [List.getElem?_map] at h
  obtain ⟨p, hp, e⟩ := Option.map_eq_some_iff.1 h
  have hid : p.1 = id := by
    injection e with e1 e2
    injection e1
  rw [← Go.ChangeMaps.map_eraseIdx]
  congr 1
  rw [filter_erase (fun p : Int × Gr => p.1) m j p (pw_nodup hn) hp, hid]
  rfl
theorem NetAt.dropped (h : NetAt w W g b room last m) (id : Int) (hb : Below w.heap.size w W2) (hg : W2.heap[g]? = W.heap[g]?) (hm : IsMap Try.prog 3 W2 b (entV (dropN m id))) : NetAt w W2 g b room last (dropN m id) :=
  ⟨hg.trans h.blk, hm, h.ge, h.bge, hb, h.rise.sublist (List.filter_sublist.map _), fun p hp => h.top p (List.mem_filter.1 hp).1, h.lo⟩
theorem store_own {ops : Array Oper} {rest : List Oper} {o : Oper} {a : Act} {w : World} {Q : Exit → Act → World → Prop} {P : Program} (hgd : o.guard = none) (ty : TypeId) (x y : Operand) (ho : o.op = .store ty x y)
    (g : Nat) (cells : Array Value) (hx : a.eval x = .pointer (some ⟨g, 0, none⟩)) (hy : a.eval y = .agg cells)
    (t : TypeId) (old : Array Value) (hg : w.heap[g]? = some (.cells old t (0, 0))) (hi : (P.info? ty).map (·.size) = some cells.size)
    (hold : old.size = cells.size) (h1 : cells.all (·.oneCell') = true)
    (h : ∀ W', W'.heap[g]? = some (.cells cells t (0, 0)) → Below g w W' → KeepBut w W' g none → wpList P ops Q rest (a.put o.dst undef) W') : wpList P ops Q (o :: rest) a w :=
  wpList_store_row hgd ty x y ho g cells hx hy t old hg hi hold h1 (h _ (setRow_heap _ _ _ _ _ _ hg) (below_setRow (Below.refl _ _) (Nat.le_refl _) _) ⟨by simp [World.setRow], fun i _ hne _ => setRow_other w g i cells hne⟩)
theorem gram_one (a c : Int) (s : ByteArray) : #[Value.int .i64 a, .int .i64 c, .string s].all (·.oneCell') = true := by simp [Value.oneCell']
set_option maxRecDepth 100000 in
theorem Take_nil (id : Int) (W : World) : Calls Try.prog 23 #[.pointer none, .int .i64 id] W fun e W2 => e = .returned (.tuple #[.agg #[.int .i64 0, .int .i64 0, .string ⟨#[]⟩], .int .i64 1]) ∧ Below W.heap.size W W2 := by
  go_enter Try.func23, Try.ntmps23
  go_wp2_with fail
  refine (find_nil id _).mono ?_
  rintro e W2 ⟨rfl, hb⟩
  have H4 := Aside0.mk (blk_below (heap_alloc_new W (.cells #[.int .i64 0, .int .i64 0, .string ⟨#[]⟩] 41)) hb)
  have HB := Aside0.mk (below_step (below_alloc (Below.refl _ _) _) hb : Below W.heap.size W W2)
  clear hb
  go_wp2_with (refine store_own rfl 41 (.tmp 4) (.tmp 21) rfl W.heap.size #[.int .i64 0, .int .i64 0, .string ⟨#[]⟩] rfl rfl 41 _ (blk_alloc H4.out _) info41z rfl (gram_one _ _ _) ?_; intro W5 hW5 hb5 hk5; have H5 := Aside0.mk hW5; have HB5 := Aside0.mk hb5; have HK5 := Aside0.mk hk5; clear hW5 hb5 hk5)
  refine bodyPost_ret (v := .tuple #[.agg #[.int .i64 0, .int .i64 0, .string ⟨#[]⟩], .int .i64 1]) (results_list (rs := [.cell 4 41, .tmp 5]) rfl (by simp) (.cell W.heap.size 41 _ (0, 0) _ rfl H5.out Try.underlying41 rfl info41z (.tmp .nil))) rfl ?_
  exact ⟨rfl, below_weaken (below_alloc HB.out _) (Nat.le_refl _) HB5.out⟩
set_option maxRecDepth 100000 in
theorem NetAt.Take_no (h : NetAt w W g b room last m) (id : Int) (hw : (Lit.int .i64 id).wf = true) (hn : ∀ p ∈ m, p.1 ≠ id) : Calls Try.prog 23 #[.pointer (some ⟨g, 0, none⟩), .int .i64 id] W fun e W2 => e = .returned (.tuple #[.agg #[.int .i64 0, .int .i64 0, .string ⟨#[]⟩], .int .i64 4]) ∧ NetDid w W W2 g b room last m := by
  have H0 := Aside0.mk h
  have HF := Aside0.mk ((h.below (below_alloc (Below.refl _ _) (.cells #[.int .i64 0, .int .i64 0, .string ⟨#[]⟩] 41))).find_no id hw hn)
  clear h
  go_enter Try.func23, Try.ntmps23
  go_wp2_with fail
  refine HF.out.mono ?_
  rintro e W2 ⟨rfl, hb⟩
  have H4 := Aside0.mk (blk_below (heap_alloc_new W (.cells #[.int .i64 0, .int .i64 0, .string ⟨#[]⟩] 41)) hb)
  have HB := Aside0.mk (below_step (below_alloc (Below.refl _ _) _) hb : Below W.heap.size W W2)
  clear hb
  go_wp2_with (refine store_own rfl 41 (.tmp 4) (.tmp 21) rfl W.heap.size #[.int .i64 0, .int .i64 0, .string ⟨#[]⟩] rfl rfl 41 _ (blk_alloc H4.out _) info41z rfl (gram_one _ _ _) ?_; intro W5 hW5 hb5 hk5; have H5 := Aside0.mk hW5; have HB5 := Aside0.mk hb5; have HK5 := Aside0.mk hk5; clear hW5 hb5 hk5)
  refine bodyPost_ret (v := .tuple #[.agg #[.int .i64 0, .int .i64 0, .string ⟨#[]⟩], .int .i64 4]) (results_list (rs := [.cell 4 41, .tmp 5]) rfl (by simp) (.cell W.heap.size 41 _ (0, 0) _ rfl H5.out Try.underlying41 rfl info41z (.tmp .nil))) rfl ?_
  exact ⟨rfl, H0.out.stay (below_weaken (below_alloc HB.out _) (Nat.le_refl _) HB5.out)⟩
set_option maxHeartbeats 1600000 in
set_option maxRecDepth 100000 in
theorem NetAt.Take_yes (h : NetAt w W g b room last m) (id : Int) (hw : (Lit.int .i64 id).wf = true) (x : Gr) (hm : (id, x) ∈ m) : Calls Try.prog 23 #[.pointer (some ⟨g, 0, none⟩), .int .i64 id] W fun e W2 => e = .returned (.tuple #[.agg #[.int .i64 x.f0, .int .i64 x.f1, .string x.f2], .int .i64 0]) ∧ NetDid w W W2 g b room last (dropN m id) := by
  have H0 := Aside0.mk h
  have HF := Aside0.mk ((h.below (below_alloc (Below.refl _ _) (.cells #[.int .i64 0, .int .i64 0, .string ⟨#[]⟩] 41))).find_yes id hw x hm)
  have HI := Aside0.mk (show (Value.int .i64 id, gramV x) ∈ entV m from List.mem_map.2 ⟨(id, x), hm, rfl⟩)
  clear h hm
  go_enter Try.func23, Try.ntmps23
  go_wp2_with fail
  refine HF.out.mono ?_
  rintro e W2 ⟨rfl, hb⟩
  have H4 := Aside0.mk (blk_below (heap_alloc_new W (.cells #[.int .i64 0, .int .i64 0, .string ⟨#[]⟩] 41)) hb)
  have HB := Aside0.mk (below_step (below_alloc (Below.refl _ _) _) hb : Below W.heap.size W W2)
  have H2 := Aside0.mk (H0.out.below HB.out)
  clear hb
  have k2 := (show W2.cell? ⟨g, 2, none⟩ = some (.map (some b)) from blk_cell H2.out.blk 2)
  have hne : ¬ W2.heap.size = g := Ne.symm (Nat.ne_of_lt (blk_lt H2.out.blk))
  have k2' := (show (W2.alloc (.cells #[.int .i64 x.f0, .int .i64 x.f1, .string x.f2] 41)).cell? ⟨g, 2, none⟩ = some (.map (some b)) from blk_cell (blk_alloc H2.out.blk _) 2)
  have hge := H0.out.bel.size
  go_wp2_with (first
    | (at_delete; refine wpList_drop_yes rfl (.tmp 19) (.tmp 20) 108 3 41 rfl intK Try.underlying108 rfl (H2.out.map.below (below_alloc (Below.refl _ _) _)) (.int .i64 id) _ _ rfl (keyI hw) HI.out ?_; intro ob j hj hmp; rw [entV_erase H0.out.rise hj] at hmp; have HM := Aside0.mk hmp; have HBL := Aside0.mk (setBlock_below (below_alloc H2.out.bel (.cells #[.int .i64 x.f0, .int .i64 x.f1, .string x.f2] 41)) H2.out.bge ob); have H6 := Aside0.mk ((setBlock_ne _ (Ne.symm (Nat.ne_of_lt H2.out.map.lt)) ob).trans (heap_alloc_new W2 (.cells #[.int .i64 x.f0, .int .i64 x.f1, .string x.f2] 41))); have H4' := Aside0.mk ((setBlock_ne _ (Ne.symm (Nat.ne_of_lt H0.out.map.lt)) ob).trans (blk_alloc H4.out (.cells #[.int .i64 x.f0, .int .i64 x.f1, .string x.f2] 41))); have HG := Aside0.mk ((setBlock_ne _ H2.out.ne ob).trans (blk_alloc H2.out.blk (.cells #[.int .i64 x.f0, .int .i64 x.f1, .string x.f2] 41))); have HK := Aside0.mk (setBlock_keep (W2.alloc (.cells #[.int .i64 x.f0, .int .i64 x.f1, .string x.f2] 41)) b ob); clear hmp hj; generalize setBlock (W2.alloc (.cells #[.int .i64 x.f0, .int .i64 x.f1, .string x.f2] 41)) b ob = W5 at *; have y0 := (show W5.cell? ⟨W2.heap.size, 0, none⟩ = some (.int .i64 x.f0) from blk_cell H6.out 0); have y1 := (show W5.cell? ⟨W2.heap.size, 1, none⟩ = some (.int .i64 x.f1) from blk_cell H6.out 1); have y2 := (show W5.cell? ⟨W2.heap.size, 2, none⟩ = some (.string x.f2) from blk_cell H6.out 2))
    | (refine store_own rfl 41 (.tmp 4) (.tmp 21) rfl W.heap.size #[.int .i64 x.f0, .int .i64 x.f1, .string x.f2] rfl rfl 41 _ H4'.out info41z rfl (gram_one _ _ _) ?_; intro W7 hW7 hb7 hk7; have H7 := Aside0.mk hW7; have HB7 := Aside0.mk hb7; have HK7 := Aside0.mk hk7; clear hW7 hb7 hk7))
  refine bodyPost_ret (v := .tuple #[.agg #[.int .i64 x.f0, .int .i64 x.f1, .string x.f2], .int .i64 0]) (results_list (rs := [.cell 4 41, .tmp 5]) rfl (by simp) (.cell W.heap.size 41 _ (0, 0) _ rfl H7.out Try.underlying41 rfl info41z (.tmp .nil))) rfl ?_
  have hgw := blk_lt H0.out.blk
  have hbw := H0.out.map.lt
  refine ⟨rfl, H0.out.dropped id (below_weaken HBL.out hge HB7.out) ?_ (HM.out.keep HK7.out (Nat.ne_of_lt hbw)), ?_⟩
  · rw [H0.out.blk]
    exact HK7.out.blk HG.out (Nat.ne_of_lt hgw) (by simp)
  · refine ⟨?_, fun i hi hn => ?_⟩
    · exact Nat.le_trans HB.out.size (Nat.le_trans (below_alloc (Below.refl W2.heap.size W2) _).size (Nat.le_trans HK.out.1 HK7.out.1))
    · have hib : i ≠ b := fun e => hn (e ▸ H0.out.footB)
      have h1 : i < W2.heap.size := Nat.lt_of_lt_of_le hi HB.out.size
      have h2 : i < (W2.alloc (.cells #[.int .i64 x.f0, .int .i64 x.f1, .string x.f2] 41)).heap.size := Nat.lt_of_lt_of_le h1 (below_alloc (Below.refl _ _) _).size
      exact (HK7.out.2 i (Nat.lt_of_lt_of_le h2 HK.out.1) (Nat.ne_of_lt hi) (by simp)).trans ((HK.out.2 i h2 hib (by simp)).trans (((below_alloc (Below.refl W2.heap.size W2) _).block i h1).trans (HB.out.block i hi)))
theorem NetAt.Take_any (h : NetAt w W g b room last m) (id : Int) (hw : (Lit.int .i64 id).wf = true) : Calls Try.prog 23 #[.pointer (some ⟨g, 0, none⟩), .int .i64 id] W fun e W2 => e = .returned (.tuple #[.agg #[.int .i64 ((atN m id).getD gz).f0, .int .i64 ((atN m id).getD gz).f1, .string ((atN m id).getD gz).f2], .int .i64 (findC (atN m id))]) ∧ NetDid w W W2 g b room last (dropN m id) := by
  match hx : atN m id with
  | none =>
    rw [dropN_none hx]
    exact h.Take_no id hw (atN_none hx)
  | some x => exact h.Take_yes id hw x (atN_some hx)
set_option maxRecDepth 100000 in
theorem NetAt.Lose_any (h : NetAt w W g b room last m) (id : Int) (hw : (Lit.int .i64 id).wf = true) : Calls Try.prog 27 #[.pointer (some ⟨g, 0, none⟩), .int .i64 id] W fun e W2 => e = .returned (.int .i64 (findC (atN m id))) ∧ NetDid w W W2 g b room last (dropN m id) := by
  have HT := Aside0.mk (h.Take_any id hw)
  have H0 := Aside0.mk h
  clear h
  go_enter Try.func27, Try.ntmps27
  go_wp2_with fail
  refine HT.out.mono ?_
  rintro e W2 ⟨rfl, d⟩
  have HD := Aside0.mk d
  clear d
  go_wp2_with fail
  go_ret
  exact ⟨rfl, ⟨HD.out.net.below (below_alloc (Below.refl _ _) _), HD.out.kept.below (below_alloc (Below.refl _ _) _)⟩⟩
set_option maxRecDepth 100000 in
theorem NetAt.Twice_any (h : NetAt w W g b room last m) (hl : last < 1000000000) (id : Int) (hw : (Lit.int .i64 id).wf = true) : Calls Try.prog 22 #[.pointer (some ⟨g, 0, none⟩), .int .i64 id] W fun e W2 => e = .returned (.tuple #[.int .i64 (match atN m id with | some _ => (putC room last m).1 | none => 0), .int .i64 (match atN m id with | some _ => (putC room last m).2 | none => 4)]) ∧ NetDid w W W2 g b room (match atN m id with | some _ => putL room last m | none => last) (match atN m id with | some x => putM room last m x | none => m) := by
  have HF := Aside0.mk (h.find_any id hw)
  have H0 := Aside0.mk h
  match hx : atN m id with
  | none =>
    rw [hx] at HF
    clear h hx
    go_enter Try.func22, Try.ntmps22
    go_wp2_with fail
    refine HF.out.mono ?_
    rintro e W2 ⟨rfl, hb⟩
    have HB := Aside0.mk hb
    clear hb
    rw [show findC none = 4 from rfl]
    go_wp2_with fail
    go_ret2
    exact ⟨rfl, H0.out.stay (below_alloc HB.out _)⟩
  | some x =>
    rw [hx] at HF
    have HPUT := Aside0.mk (fun (W' : World) (hb : Below W.heap.size W W') => ((h.below hb).put_any hl x).mono (fun e W2 q => show e = _ ∧ NetDid w W W2 g b room (putL room last m) (putM room last m x) from ⟨q.1, ⟨q.2.net, keptN_step h hb q.2.kept⟩⟩))
    clear h hx
    go_enter Try.func22, Try.ntmps22
    go_wp2_with fail
    refine HF.out.mono ?_
    rintro e W2 ⟨rfl, hb⟩
    have HB := Aside0.mk hb
    clear hb
    rw [show findC (some x) = 0 from rfl]
    simp only [Option.getD_some]
    go_wp2_with fail
    refine (HPUT.out _ (below_alloc HB.out _)).mono ?_
    rintro e W3 ⟨rfl, d⟩
    have HD := Aside0.mk d
    clear d
    go_wp2_with fail
    go_ret2
    exact ⟨rfl, HD.out⟩
set_option maxRecDepth 100000 in
theorem NetAt.Len_any (h : NetAt w W g b room last m) : Calls Try.prog 25 #[.pointer (some ⟨g, 0, none⟩)] W fun e W2 => e = .returned (.int .i64 (m.length : Nat)) ∧ W2 = W := by
  have k2 := (show W.cell? ⟨g, 2, none⟩ = some (.map (some b)) from blk_cell h.blk 2)
  have hlen := h.lenAt 0
  have hlen' : (Builtin.len_ #[108] 3 #[.map (some b)]).run Try.prog W = .ok (.int .i64 (m.length : Nat)) W := hlen
  clear h hlen
  go_enter Try.func25, Try.ntmps25
  go_wp2_with fail
  go_ret
  exact ⟨rfl, rfl⟩
end
end Go.Proofs.Ytcddajdjmlmpdaa.Print
