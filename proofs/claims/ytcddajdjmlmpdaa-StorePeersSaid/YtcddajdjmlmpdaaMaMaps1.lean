/- Maps in memory, as lists of their entries in the order in which they were laid: look-up, store, delete, len, range. -/
import Derived.Test.YtcddajdjmlmpdaaPrK
import Derived.Maps.OwnSet
import Derived.Maps.RangeWalk
import Derived.Maps.OwnOps
namespace Go.Proofs.Ytcddajdjmlmpdaa.Print
open Go.RowKit Go.Proofs.YtcddajdjmlmpdaaW.PrintWords Go.Proofs.YtcddajdjmlmpdaaW.PrintLast Go.Proofs.YtcddajdjmlmpdaaW.PrintMore
open Go.ChangeMaps (setBlock)
open Go.Maps (Keyed)
set_option linter.unusedVariables false
set_option linter.unusedSimpArgs false

/-- Block b is a map whose entries are m, in the order in which they were laid. -/
structure MapAt (P : Program) (k : TypeId) (w : World) (b : Nat) (es : Array MapEntry) (clock : Nat) (m : List (Value × Value)) : Prop where
  blk : w.heap[b]? = some (.map es clock)
  ent : es.toList.map (fun e => (e.key, e.val)) = m
  nod : (m.map (·.1)).Nodup
  rd : ∀ p ∈ m, ∃ l, keyOf P k p.1 = some l
  born : (es.toList.map (·.born)).Nodup
  old : ∀ e ∈ es.toList, e.born < clock
def IsMap (P : Program) (k : TypeId) (w : World) (b : Nat) (m : List (Value × Value)) : Prop := ∃ es clock, MapAt P k w b es clock m
theorem setBlock_at {w : World} {b : Nat} (h : b < w.heap.size) (o : Obj) : (setBlock w b o).heap[b]? = some o := by
  unfold setBlock
  simp [h]
theorem setBlock_ne (w : World) {b i : Nat} (h : i ≠ b) (o : Obj) : (setBlock w b o).heap[i]? = w.heap[i]? := by
  unfold setBlock
  simp [Array.getElem?_setIfInBounds, Ne.symm h]
theorem setBlock_size (w : World) (b : Nat) (o : Obj) : (setBlock w b o).heap.size = w.heap.size := by simp [setBlock]
theorem setBlock_keep (w : World) (b : Nat) (o : Obj) : KeepBut w (setBlock w b o) b none := ⟨by rw [setBlock_size]; exact Nat.le_refl _, fun i _ hi _ => setBlock_ne w hi o⟩
theorem setBlock_below {w0 w : World} {b : Nat} (h : Below w0.heap.size w0 w) (hb : w0.heap.size ≤ b) (o : Obj) : Below w0.heap.size w0 (setBlock w b o) :=
  ⟨h.os, h.tape, h.output, by rw [setBlock_size]; exact h.size, fun i hi => (setBlock_ne w (by omega) o).trans (h.block i hi)⟩
section
variable {P : Program} {k e t : TypeId} {w w2 : World} {b r : Nat} {es : Array MapEntry} {clock : Nat} {m left : List (Value × Value)}
theorem IsMap.lt (h : IsMap P k w b m) : b < w.heap.size := by
  obtain ⟨es, clock, h⟩ := h
  exact blk_lt h.blk
theorem IsMap.move (h : IsMap P k w b m) (hb : w2.heap[b]? = w.heap[b]?) : IsMap P k w2 b m := by
  obtain ⟨es, clock, h⟩ := h
  exact ⟨es, clock, hb.trans h.blk, h.ent, h.nod, h.rd, h.born, h.old⟩
theorem IsMap.below (h : IsMap P k w b m) (hb : Below w.heap.size w w2) : IsMap P k w2 b m := h.move (hb.block b h.lt)
theorem IsMap.keep (h : IsMap P k w b m) {g : Nat} (hk : KeepBut w w2 g none) (hg : b ≠ g) : IsMap P k w2 b m := h.move (hk.2 b h.lt hg (by simp))
theorem IsMap.nod (h : IsMap P k w b m) : (m.map (·.1)).Nodup := by
  obtain ⟨es, clock, h⟩ := h
  exact h.nod
theorem MapAt.keys (h : MapAt P k w b es clock m) : ∀ x ∈ es.toList, ∃ l, keyOf P k x.key = some l := fun x hx => h.rd (x.key, x.val) (by rw [← h.ent]; exact List.mem_map.2 ⟨x, hx, rfl⟩)
theorem MapAt.find_no (h : MapAt P k w b es clock m) (K : Keyed P k) {x : Value} {lx : Lit} (hx : keyOf P k x = some lx) (hn : ∀ p ∈ m, p.1 ≠ x) : (Instr.findKey k x es.toList).run P w = .ok none w := by
  rcases K.find w hx es.toList h.keys with ⟨h1, _⟩ | ⟨j, e0, h1, h2, h3⟩
  · exact h1
  · exact absurd h3 (hn (e0.key, e0.val) (by rw [← h.ent]; exact List.mem_map.2 ⟨e0, List.mem_of_getElem? h2, rfl⟩))
theorem MapAt.find_yes (h : MapAt P k w b es clock m) (K : Keyed P k) {x v : Value} {lx : Lit} (hx : keyOf P k x = some lx) (hm : (x, v) ∈ m) : ∃ j, j < es.size ∧ (Instr.findKey k x es.toList).run P w = .ok (some (j, v)) w ∧ m[j]? = some (x, v) := by
  rcases K.find w hx es.toList h.keys with ⟨_, h2⟩ | ⟨j, e0, h1, h2, h3⟩
  · rw [← h.ent] at hm
    obtain ⟨e0, he, e1⟩ := List.mem_map.1 hm
    cases e1
    exact absurd rfl (h2 e0 he)
  · have hj : m[j]? = some (x, e0.val) := by
      rw [← h.ent, List.getElem?_map, h2, ← h3]
      rfl
    obtain ⟨i, hi⟩ := List.mem_iff_getElem?.1 hm
    have hv : e0.val = v := by
      have hij : i = j := by
        have hil := (List.getElem?_eq_some_iff.1 hi).1
        have hjl := (List.getElem?_eq_some_iff.1 hj).1
        refine (List.getElem_inj (xs := m.map (·.1)) (h₀ := by simpa using hil) (h₁ := by simpa using hjl) h.nod).1 ?_
        have a1 := (List.getElem?_eq_some_iff.1 hi).2
        have a2 := (List.getElem?_eq_some_iff.1 hj).2
        rw [List.getElem_map, List.getElem_map, a1, a2]
      subst hij
      rw [hi] at hj
      cases hj
      rfl
    subst hv
    have := (List.getElem?_eq_some_iff.1 h2).1
    exact ⟨j, by simpa using this, h1, hj⟩
theorem IsMap.lookup_no (h : IsMap P k w b m) (K : Keyed P k) (ht : P.underlying t = some (.map k e)) {z : Value} (hz : (zeroValue e).run P w = .ok z w) {x : Value} {lx : Lit} (hx : keyOf P k x = some lx) (hn : ∀ p ∈ m, p.1 ≠ x) (c : Bool) :
    (Instr.lookup t (.map (some b)) x c).run P w = .ok (if c then .tuple #[z, .bool false] else z) w := by
  obtain ⟨es, clock, h⟩ := h
  simp [Instr.lookup, run_underlying ht, MapKept.run_getObj_map h.blk, K.check w _ hx, h.find_no K hx hn, hz, Result.andThen]
theorem IsMap.lookup_yes (h : IsMap P k w b m) (K : Keyed P k) (ht : P.underlying t = some (.map k e)) {x v : Value} {lx : Lit} (hx : keyOf P k x = some lx) (hm : (x, v) ∈ m) (c : Bool) :
    (Instr.lookup t (.map (some b)) x c).run P w = .ok (if c then .tuple #[v, .bool true] else v) w := by
  obtain ⟨es, clock, h⟩ := h
  obtain ⟨j, _, hf, _⟩ := h.find_yes K hx hm
  simp [Instr.lookup, run_underlying ht, MapKept.run_getObj_map h.blk, K.check w _ hx, hf, Result.andThen]
theorem IsMap.store (h : IsMap P k w b m) (K : Keyed P k) (ht : P.underlying t = some (.map k e)) {x : Value} {lx : Lit} (hx : keyOf P k x = some lx) (hn : ∀ p ∈ m, p.1 ≠ x) (v : Value) :
    ∃ o, (Instr.mapUpdate t (.map (some b)) x v).run P w = .ok () (setBlock w b o) ∧ IsMap P k (setBlock w b o) b (m ++ [(x, v)]) := by
  obtain ⟨es, clock, h⟩ := h
  refine ⟨.map (es.push { key := x, val := v, born := clock }) (clock + 1), ?_, _, _, setBlock_at (blk_lt h.blk) _, ?_, ?_, ?_, ?_, ?_⟩
  · simp [Instr.mapUpdate, run_underlying ht, MapKept.run_getObj_map h.blk, K.check w _ hx, h.find_no K hx hn, MapKept.run_setObj_map _ h.blk, Result.andThen, setBlock]
  · simp [← h.ent]
  · rw [List.map_append, List.nodup_append]
    refine ⟨h.nod, by simp, fun a ha c hc => ?_⟩
    obtain ⟨p, hp, rfl⟩ := List.mem_map.1 ha
    have : c = x := by simpa using hc
    subst this
    exact hn p hp
  · intro p hp
    rcases List.mem_append.1 hp with hp | hp
    · exact h.rd p hp
    · have : p = (x, v) := by simpa using hp
      subst this
      exact ⟨lx, hx⟩
  · rw [Array.toList_push, List.map_append, List.nodup_append]
    refine ⟨h.born, by simp, fun a ha c hc => ?_⟩
    obtain ⟨y, hy, rfl⟩ := List.mem_map.1 ha
    have : c = clock := by simpa using hc
    subst this
    exact Nat.ne_of_lt (h.old y hy)
  · intro y hy
    rw [Array.toList_push] at hy
    rcases List.mem_append.1 hy with hy | hy
    · exact Nat.lt_succ_of_lt (h.old y hy)
    · have : y = { key := x, val := v, born := clock } := by simpa using hy
      subst this
      exact Nat.lt_succ_self _
theorem filter_erase {α κ : Type} [DecidableEq κ] (f : α → κ) : ∀ (l : List α) (j : Nat) (x : α), (l.map f).Nodup → l[j]? = some x → l.eraseIdx j = l.filter (fun p => decide (f p ≠ f x))
  | [], j, x, _, h => by simp at h
  | p :: l, 0, x, hn, h => by
    have hp : p = x := by simpa using h
    subst hp
    rw [List.map_cons, List.nodup_cons] at hn
    rw [List.eraseIdx_cons_zero, List.filter_cons, if_neg (by simp)]
    symm
    rw [List.filter_eq_self]
    intro q hq
    refine decide_eq_true (fun hqx => hn.1 ?_)
    exact List.mem_map.2 ⟨q, hq, hqx⟩
  | p :: l, j + 1, x, hn, h => by
    rw [List.map_cons, List.nodup_cons] at hn
    have hl : l[j]? = some x := by simpa using h
    have hpx : f p ≠ f x := fun hpx => hn.1 (List.mem_map.2 ⟨x, List.mem_of_getElem? hl, hpx.symm⟩)
    rw [List.eraseIdx_cons_succ, filter_erase f l j x hn.2 hl, List.filter_cons, if_pos (decide_eq_true hpx)]
theorem IsMap.drop_yes (h : IsMap P k w b m) (K : Keyed P k) (ht : P.underlying t = some (.map k e)) {x v : Value} {lx : Lit} (hx : keyOf P k x = some lx) (hm : (x, v) ∈ m) (ty : TypeId) :
    ∃ o j, m[j]? = some (x, v) ∧ (Builtin.delete_ #[t, k] ty #[.map (some b), x]).run P w = .ok (.tuple #[]) (setBlock w b o) ∧ IsMap P k (setBlock w b o) b (m.eraseIdx j) := by
  obtain ⟨es, clock, h⟩ := h
  obtain ⟨j, hj, hf, hmj⟩ := h.find_yes K hx hm
  have hl : (es.eraseIdxIfInBounds j).toList = es.toList.eraseIdx j := by
    unfold Array.eraseIdxIfInBounds
    rw [dif_pos hj]
    simp
  have hsub : (es.toList.eraseIdx j).Sublist es.toList := List.eraseIdx_sublist _ _
  refine ⟨.map (es.eraseIdxIfInBounds j) clock, j, hmj, ?_, _, _, setBlock_at (blk_lt h.blk) _, ?_, ?_, ?_, ?_, ?_⟩
  · simp [Builtin.delete_, run_underlying ht, MapKept.run_getObj_map h.blk, K.check w _ hx, hf, MapKept.run_setObj_map _ h.blk, Result.andThen, setBlock]
  · rw [hl, ← h.ent, Go.ChangeMaps.map_eraseIdx]
  · exact h.nod.sublist ((List.eraseIdx_sublist _ _).map _)
  · intro p hp
    exact h.rd p ((List.eraseIdx_sublist _ _).subset hp)
  · rw [hl]
    exact h.born.sublist (hsub.map _)
  · intro y hy
    rw [hl] at hy
    exact h.old y (hsub.subset hy)
theorem IsMap.drop_no (h : IsMap P k w b m) (K : Keyed P k) (ht : P.underlying t = some (.map k e)) {x : Value} {lx : Lit} (hx : keyOf P k x = some lx) (hn : ∀ p ∈ m, p.1 ≠ x) (ty : TypeId) :
    ∃ o, (Builtin.delete_ #[t, k] ty #[.map (some b), x]).run P w = .ok (.tuple #[]) (setBlock w b o) ∧ IsMap P k (setBlock w b o) b m := by
  obtain ⟨es, clock, h⟩ := h
  refine ⟨.map es clock, ?_, _, _, setBlock_at (blk_lt h.blk) _, h.ent, h.nod, h.rd, h.born, h.old⟩
  simp [Builtin.delete_, run_underlying ht, MapKept.run_getObj_map h.blk, K.check w _ hx, h.find_no K hx hn, MapKept.run_setObj_map _ h.blk, Result.andThen, setBlock]
theorem IsMap.len (h : IsMap P k w b m) (ht : P.underlying t = some (.map k e)) (ty : TypeId) : (Builtin.len_ #[t] ty #[.map (some b)]).run P w = .ok (.int .i64 (m.length : Nat)) w := by
  obtain ⟨es, clock, h⟩ := h
  have hl : es.size = m.length := by rw [← h.ent]; simp
  simp [Builtin.len_, run_underlying ht, MapKept.run_getObj_map h.blk, goInt, hl]
theorem IsMap.made (w : World) (k : TypeId) : IsMap P k (w.alloc (.map #[] 0)) w.heap.size [] := ⟨#[], 0, heap_alloc_new _ _, rfl, by simp, by simp, by simp, by simp⟩
/-! ### Range -/
/-- Block r is an iterator over the map in block b; left: the entries that are still to come. -/
def IterAt (P : Program) (k : TypeId) (w : World) (r b : Nat) (m left : List (Value × Value)) : Prop :=
  ∃ es clock seen c0, MapAt P k w b es clock m ∧ w.heap[r]? = some (.mapIter (some b) clock seen c0) ∧ clock ≤ c0 ∧ (leftOf es seen).toList.map (fun e => (e.key, e.val)) = left
theorem IterAt.map (h : IterAt P k w r b m left) : IsMap P k w b m := by
  obtain ⟨es, clock, seen, c0, h, _⟩ := h
  exact ⟨es, clock, h⟩
theorem IterAt.rlt (h : IterAt P k w r b m left) : r < w.heap.size := by
  obtain ⟨es, clock, seen, c0, _, h, _⟩ := h
  exact blk_lt h
theorem IterAt.below (h : IterAt P k w r b m left) (hb : Below w.heap.size w w2) : IterAt P k w2 r b m left := by
  obtain ⟨es, clock, seen, c0, h, hr, hc, hl⟩ := h
  exact ⟨es, clock, seen, c0, ⟨blk_below h.blk hb, h.ent, h.nod, h.rd, h.born, h.old⟩, blk_below hr hb, hc, hl⟩
theorem IterAt.kept (h : IterAt P k w r b m left) (h1 : w2.heap[b]? = w.heap[b]?) (h2 : w2.heap[r]? = w.heap[r]?) : IterAt P k w2 r b m left := by
  obtain ⟨es, clock, seen, c0, h, hr, hc, hl⟩ := h
  exact ⟨es, clock, seen, c0, ⟨h1.trans h.blk, h.ent, h.nod, h.rd, h.born, h.old⟩, h2.trans hr, hc, hl⟩
theorem IsMap.range (h : IsMap P k w b m) (ht : P.underlying t = some (.map k e)) :
    ∃ o, (Instr.range t (.map (some b))).run P w = .ok (.pointer (some ⟨w.heap.size, 0, none⟩)) (w.alloc o) ∧ IterAt P k (w.alloc o) w.heap.size b m m := by
  obtain ⟨es, clock, h⟩ := h
  refine ⟨_, run_range_map w t k e b es clock ht h.blk, es, clock, #[], clock, ⟨blk_alloc h.blk _, h.ent, h.nod, h.rd, h.born, h.old⟩, heap_alloc_new _ _, Nat.le_refl _, ?_⟩
  rw [← h.ent]
  unfold leftOf
  rw [Array.toList_filter, List.filter_eq_self.2 (by simp)]
theorem left_step (es : Array MapEntry) (seen : Array Nat) (hn : (es.toList.map (·.born)).Nodup) {x : MapEntry} (hx : x ∈ (leftOf es seen).toList) :
    ∃ l1 l2, (leftOf es seen).toList = l1 ++ x :: l2 ∧ (leftOf es (seen.push x.born)).toList = l1 ++ l2 := by
  obtain ⟨l1, l2, hl⟩ := List.append_of_mem hx
  refine ⟨l1, l2, hl, ?_⟩
  have hnod : ((leftOf es seen).toList.map (·.born)).Nodup := by
    unfold leftOf
    rw [Array.toList_filter]
    exact hn.sublist (List.filter_sublist.map _)
  have h2 : (leftOf es (seen.push x.born)).toList = (leftOf es seen).toList.filter (fun e => e.born != x.born) := by
    unfold leftOf
    rw [Array.toList_filter, Array.toList_filter, List.filter_filter]
    apply List.filter_congr
    intro y _
    simp only [Array.contains_push, Bool.not_or]
    rw [Bool.and_comm]
    congr 1
  rw [h2, hl, List.filter_append, List.filter_cons, if_neg (by simp)]
  rw [hl, List.map_append, List.map_cons, List.nodup_append, List.nodup_cons] at hnod
  obtain ⟨_, ⟨hx2, _⟩, h3⟩ := hnod
  congr 1
  · rw [List.filter_eq_self]
    intro y hy
    have := h3 y.born (List.mem_map.2 ⟨y, hy, rfl⟩) x.born (by simp)
    simpa using this
  · rw [List.filter_eq_self]
    intro y hy
    have : y.born ≠ x.born := fun e => hx2 (by rw [← e]; exact List.mem_map.2 ⟨y, hy, rfl⟩)
    simpa using this
theorem IterAt.next (h : IterAt P k w r b m left) (hrb : r ≠ b) (ty : TypeId) :
    (left = [] ∧ (Instr.next (.pointer (some ⟨r, 0, none⟩)) false ty).run P w = .ok (.tuple #[.bool false]) w) ∨
    ∃ l1 x v l2 w1 o, left = l1 ++ (x, v) :: l2 ∧ (w1 = w ∨ w1 = w.drew) ∧ (Instr.next (.pointer (some ⟨r, 0, none⟩)) false ty).run P w = .ok (.tuple #[.bool true, x, v]) (setBlock w1 r o) ∧
      IterAt P k (setBlock w1 r o) r b m (l1 ++ l2) ∧ (Instr.entry (.pointer (some ⟨r, 0, none⟩))).run P (setBlock w1 r o) = .ok (.tuple #[x, v]) (setBlock w1 r o) := by
  obtain ⟨es, clock, seen, c0, h, hr, hc, hl⟩ := h
  rcases run_next_at (P := P) w ty r b clock c0 seen es clock hr h.blk h.old hc with ⟨h0, hrun⟩ | ⟨x, hx, w1, hw1, hrun⟩
  · refine .inl ⟨?_, hrun⟩
    rw [← hl, Array.eq_empty_of_size_eq_zero h0]
    rfl
  · obtain ⟨l1, l2, h1, h2⟩ := left_step es seen h.born hx
    have hr1 : w1.heap[r]? = some (.mapIter (some b) clock seen c0) := by rcases hw1 with rfl | rfl <;> exact hr
    have hb1 : w1.heap[b]? = some (.map es clock) := by rcases hw1 with rfl | rfl <;> exact h.blk
    have hb2 : (setBlock w1 r (.mapIter (some b) clock (seen.push x.born) clock)).heap[b]? = some (.map es clock) := (setBlock_ne w1 (Ne.symm hrb) _).trans hb1
    have hr2 : (setBlock w1 r (.mapIter (some b) clock (seen.push x.born) clock)).heap[r]? = some (.mapIter (some b) clock (seen.push x.born) clock) := setBlock_at (blk_lt hr1) _
    refine .inr ⟨l1.map (fun e => (e.key, e.val)), x.key, x.val, l2.map (fun e => (e.key, e.val)), w1, _, ?_, hw1, hrun, ⟨es, clock, seen.push x.born, clock, ⟨hb2, h.ent, h.nod, h.rd, h.born, h.old⟩, hr2, Nat.le_refl _, ?_⟩, ?_⟩
    · rw [← hl, h1, List.map_append, List.map_cons]
    · rw [h2, List.map_append]
    · have hxe : x ∈ es.toList := by
        unfold leftOf at hx
        rw [Array.toList_filter] at hx
        exact (List.mem_filter.1 hx).1
      exact run_entry_at _ r b clock seen es clock x hr2 hb2 hxe h.born
end
/-! ### At the operations -/
section
variable {P : Program} {k e t : TypeId} {w w2 : World} {b r : Nat} {m left : List (Value × Value)} {ops : Array Oper} {rest : List Oper} {o : Oper} {a : Act} {Q : Exit → Act → World → Prop}
theorem wpList_look (hg : o.guard = none) (mo x : Operand) (t : TypeId) (c : Bool) (hop : o.op = Op.lookup t mo x c) (v : Value) (hrun : (Instr.lookup t (a.eval mo) (a.eval x) c).run P w = .ok v w)
    (hK : wpList P ops Q rest (a.put o.dst v) w) : wpList P ops Q (o :: rest) a w := by
  refine wpList_plain hg fun K' hK' => ?_
  unfold Oper.wp
  simp [execOp, hop, hrun, Result.andThen]
  exact hK' _ _ hK
theorem wpList_put (hg : o.guard = none) (mo x v : Operand) (t : TypeId) (hop : o.op = Op.mapUpdate t mo x v) (w' : World) (hrun : (Instr.mapUpdate t (a.eval mo) (a.eval x) (a.eval v)).run P w = .ok () w')
    (hK : wpList P ops Q rest (a.put o.dst undef) w') : wpList P ops Q (o :: rest) a w := by
  refine wpList_plain hg fun K' hK' => ?_
  unfold Oper.wp
  simp [execOp, hop, hrun, Result.andThen]
  exact hK' _ _ hK
theorem wpList_drop (hg : o.guard = none) (mo x : Operand) (t k : TypeId) (hop : o.op = Op.call { callee := Callee.builtin Builtin.delete, args := #[mo, x], argTypes := #[t, k] }) (w' : World)
    (hrun : (Builtin.delete_ #[t, k] o.type #[a.eval mo, a.eval x]).run P w = .ok (.tuple #[]) w') (hK : wpList P ops Q rest (a.put o.dst (.tuple #[])) w') : wpList P ops Q (o :: rest) a w := by
  refine wpList_plain hg fun K' hK' => ?_
  unfold Oper.wp
  simp [execOp, hop, resolve, invoke, builtin, hrun, Result.andThen]
  exact hK' _ _ hK
theorem wpList_drop_yes (hg : o.guard = none) (mo x : Operand) (t k e : TypeId) (hop : o.op = Op.call { callee := Callee.builtin Builtin.delete, args := #[mo, x], argTypes := #[t, k] })
    (K : Keyed P k) (ht : P.underlying t = some (.map k e)) (hm : a.eval mo = .map (some b)) (h : IsMap P k w b m) (key v : Value) (lx : Lit) (hx : a.eval x = key) (hkey : keyOf P k key = some lx) (hin : (key, v) ∈ m)
    (hK : ∀ ob j, m[j]? = some (key, v) → IsMap P k (setBlock w b ob) b (m.eraseIdx j) → wpList P ops Q rest (a.put o.dst (.tuple #[])) (setBlock w b ob)) : wpList P ops Q (o :: rest) a w := by
  obtain ⟨ob, j, hj, hrun, hmp⟩ := h.drop_yes K ht hkey hin o.type
  exact wpList_drop hg mo x t k hop _ (by rw [hm, hx]; exact hrun) (hK ob j hj hmp)
theorem wpList_maplen (hg : o.guard = none) (mo : Operand) (t : TypeId) (hop : o.op = Op.call { callee := Callee.builtin Builtin.len, args := #[mo], argTypes := #[t] }) (v : Value)
    (hrun : (Builtin.len_ #[t] o.type #[a.eval mo]).run P w = .ok v w) (hK : wpList P ops Q rest (a.put o.dst v) w) : wpList P ops Q (o :: rest) a w := by
  refine wpList_plain hg fun K' hK' => ?_
  unfold Oper.wp
  simp [execOp, hop, resolve, invoke, builtin, hrun, Result.andThen]
  exact hK' _ _ hK
theorem wpList_range_ (hg : o.guard = none) (mo : Operand) (t : TypeId) (hop : o.op = Op.range t mo) (v : Value) (w' : World) (hrun : (Instr.range t (a.eval mo)).run P w = .ok v w')
    (hK : wpList P ops Q rest (a.put o.dst v) w') : wpList P ops Q (o :: rest) a w := by
  refine wpList_plain hg fun K' hK' => ?_
  unfold Oper.wp
  simp [execOp, hop, hrun, Result.andThen]
  exact hK' _ _ hK
theorem wpList_next_ (hg : o.guard = none) (it : Operand) (hop : o.op = Op.next it false) (hit : a.eval it = .pointer (some ⟨r, 0, none⟩)) (h : IterAt P k w r b m left) (hrb : r ≠ b)
    (hDone : left = [] → wpList P ops Q rest (a.put o.dst (.tuple #[.bool false])) w)
    (hMore : ∀ l1 x v l2 w1 ob, left = l1 ++ (x, v) :: l2 → (w1 = w ∨ w1 = w.drew) → IterAt P k (setBlock w1 r ob) r b m (l1 ++ l2) → (Instr.entry (.pointer (some ⟨r, 0, none⟩))).run P (setBlock w1 r ob) = .ok (.tuple #[x, v]) (setBlock w1 r ob) →
      wpList P ops Q rest (a.put o.dst (.tuple #[.bool true, x, v])) (setBlock w1 r ob)) : wpList P ops Q (o :: rest) a w := by
  refine wpList_plain hg fun K' hK' => ?_
  unfold Oper.wp
  rcases h.next hrb o.type with ⟨h0, hrun⟩ | ⟨l1, x, v, l2, w1, ob, hl, hw1, hrun, hi, hen⟩
  · simp [execOp, hop, hit, hrun, Result.andThen]
    exact hK' _ _ (hDone h0)
  · simp [execOp, hop, hit, hrun, Result.andThen]
    exact hK' _ _ (hMore l1 x v l2 w1 ob hl hw1 hi hen)
end
end Go.Proofs.Ytcddajdjmlmpdaa.Print
