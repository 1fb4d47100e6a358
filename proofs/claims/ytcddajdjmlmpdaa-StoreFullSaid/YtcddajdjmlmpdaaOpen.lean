/- Opening what came in: data that reads at a type as a value of the print's kinds, whatever the nesting. -/
import Derived.Deep.Slices
import Derived.ChangeArms
import Derived.Test.YtcddajdjmlmpdaaWWords
import Derived.Test.YtcddajdjmlmpdaaWArr
import Derived.OpenShut
namespace Go.Proofs.Ytcddajdjmlmpdaa.Open
open Go.Deep Go.ChangeShapes Go.WideShapes Go.Proofs.YtcddajdjmlmpdaaW.PrintWords
set_option linter.unusedVariables false

/-- Whatever reads as data at type t is of kind d, and q holds of it. -/
def Opens (P : Program) (t : TypeId) {α : Type} (d : Kd α) (q : α → Prop) : Prop :=
  P.cellsOf t = d.sz ∧ ∀ {H : Type} (enc : TypeId × Value → H) (w : World) (fuel : Nat) (cs : List Value) (x : DataW H × List MemPlace),
    DataW.trod enc P w 0 (fun _ => true) true fuel t cs = some x → ∃ a : α, d.K w a cs ∧ q a

section
variable {P : Program} {t : TypeId}

theorem opens_int {k : IntKind} (ht : P.underlying t = some (.int k)) (hc : P.cellsOf t = 1) : Opens P t (Kd.int k) (fun n => (Lit.int k n).wf = true) :=
  ⟨hc, fun enc w fuel cs x h => by
    obtain ⟨n, rfl, _, hw⟩ := DataW.trod_int ht h
    exact ⟨n, rfl, hw⟩⟩
theorem opens_bool (ht : P.underlying t = some .bool) (hc : P.cellsOf t = 1) : Opens P t Kd.bool (fun _ => True) :=
  ⟨hc, fun enc w fuel cs x h => by
    obtain ⟨b, rfl, _⟩ := DataW.trod_bool ht h
    exact ⟨b, rfl, trivial⟩⟩
theorem opens_string (ht : P.underlying t = some .string) (hc : P.cellsOf t = 1) : Opens P t Kd.string (fun s => s.size ≤ maxLen) :=
  ⟨hc, fun enc w fuel cs x h => by
    obtain ⟨s, rfl, _, hs⟩ := DataW.trod_string ht h
    exact ⟨s, rfl, hs⟩⟩

theorem ofFn_get {α : Type} {n : Nat} (f : Fin n → α) (j : Nat) (p : α) (h : (List.ofFn f)[j]? = some p) : ∃ hj : j < n, p = f ⟨j, hj⟩ := by
  rw [List.getElem?_ofFn] at h
  split at h
  · exact ⟨_, (Option.some.inj h).symm⟩
  · cases h

theorem opens_slice {α : Type} {e : TypeId} {d : Kd α} {q : α → Prop} (ht : P.underlying t = some (.slice e)) (hc : P.cellsOf t = 1) (h : Opens P e d q) :
    Opens P t (Kd.slice e d) (fun l => l.length ≤ maxLen ∧ ∀ x ∈ l, q x) :=
  ⟨hc, fun enc w fuel cs x hx => by
    rcases open_slice ht hx with ⟨rfl, _⟩ | ⟨a, len, cap, m, n, D, Pl, rfl, _, hl, hm, hmm, _, hel⟩
    · exact ⟨[], ⟨none, 0, rfl, Nat.le_refl _, rfl, Nat.zero_le _, fun h0 => absurd h0 (by simp)⟩, Nat.zero_le _, fun x hx => by simp at hx⟩
    · simp only [if_true] at hmm
      subst hmm
      have one : ∀ i : Fin len, ∃ y : α, ∃ c, w.cells? 0 (a.add (i.val * P.cellsOf e)) (P.cellsOf e) = some c ∧ d.K w y c ∧ q y := by
        intro i
        obtain ⟨c, h1, h2⟩ := hel i.val (by omega)
        obtain ⟨y, h3, h4⟩ := h.2 enc w n c _ h2
        exact ⟨y, c, h1, h3, h4⟩
      have ex := Classical.axiomOfChoice one
      obtain ⟨f, hf⟩ := ex
      refine ⟨List.ofFn f, ⟨some a, m, by simp, by simpa using hl, by simp, ?_, fun h0 => ⟨a, rfl, fun j p hj => ?_⟩⟩, by simp; omega, fun x hx => ?_⟩
      · have : maxLen = 9223372036854775807 := rfl
        simp
        omega
      · obtain ⟨hj', rfl⟩ := ofFn_get f j p hj
        obtain ⟨c, h1, h3, h4⟩ := hf ⟨j, hj'⟩
        obtain ⟨_, hlc, hcell⟩ := World.cells?_some h1
        refine ⟨c, by rw [hlc, h.1], h3, fun i u hu => ?_⟩
        have hi : i < c.length := (List.getElem?_eq_some_iff.1 hu).1
        have h5 := hcell i (by omega)
        rw [Go.Deep.add_add, h.1] at h5
        exact h5.trans hu
      · obtain ⟨i, rfl⟩ := (List.mem_ofFn).1 hx
        obtain ⟨c, h1, h3, h4⟩ := hf i
        exact h4⟩

theorem opens_array {α : Type} {n : Nat} {e : TypeId} {d : Kd α} {q : α → Prop} (hs : 0 < d.sz) (ht : P.underlying t = some (.array n e)) (hc : P.cellsOf t = n * d.sz) (h : Opens P e d q) :
    Opens P t (Kd.arr n d hs) (fun l => l.length = n ∧ ∀ x ∈ l, q x) :=
  ⟨hc, fun enc w fuel cs x hx => by
    obtain ⟨xs, m, _, _, hl, hn, hf⟩ := DataW.trod_array ht hx
    have one : ∀ i : Fin n, ∃ y : α, d.K w y ((cs.drop (i.val * d.sz)).take d.sz) ∧ q y := by
      intro i
      have h1 := hf i.val i.isLt
      rw [h.1] at h1
      exact h.2 enc w m _ _ (h1.trans (List.getElem?_eq_getElem (by have := i.isLt; omega)))
    obtain ⟨f, hf2⟩ := Classical.axiomOfChoice one
    refine ⟨List.ofFn f, ⟨by simp, by rw [hl, hc]; simp, fun j p hj => ?_⟩, by simp, fun x hx => ?_⟩
    · obtain ⟨hj', rfl⟩ := ofFn_get f j p hj
      exact (hf2 ⟨j, hj'⟩).1
    · obtain ⟨i, rfl⟩ := (List.mem_ofFn).1 hx
      exact (hf2 i).2⟩

/-- The fields fs, which begin at cell o of a struct, as a kind. -/
def OpensF (P : Program) (fs : List Field) (o : Nat) {α : Type} (d : Kd α) (q : α → Prop) : Prop :=
  ∀ {H : Type} (enc : TypeId × Value → H) (w : World) (fuel : Nat) (cs : List Value),
    (∀ f ∈ fs, ∃ x, DataW.trod enc P w 0 (fun _ => true) true fuel f.type ((cs.drop f.offset).take (P.cellsOf f.type)) = some x) → cs.length = o + d.sz → ∃ a : α, d.K w a (cs.drop o) ∧ q a

theorem fields_one {α : Type} {f : Field} {d : Kd α} {q : α → Prop} (h : Opens P f.type d q) : OpensF P [f] f.offset d q := by
  intro H enc w fuel cs hx hl
  obtain ⟨x, hx⟩ := hx f (by simp)
  rw [h.1, List.take_of_length_le (by simp; omega)] at hx
  exact h.2 enc w fuel _ x hx
theorem fields_cons {α β : Type} {f : Field} {fs : List Field} {o : Nat} {d1 : Kd α} {d2 : Kd β} {q1 : α → Prop} {q2 : β → Prop} (h1 : Opens P f.type d1 q1) (ho : o = f.offset + d1.sz) (h2 : OpensF P fs o d2 q2) :
    OpensF P (f :: fs) f.offset (Kd.pair d1 d2) (fun x => q1 x.1 ∧ q2 x.2) := by
  intro H enc w fuel cs hx hl
  have hl' : cs.length = f.offset + (d1.sz + d2.sz) := hl
  obtain ⟨x, hx1⟩ := hx f (by simp)
  obtain ⟨a, ha, qa⟩ := h1.2 enc w fuel _ x hx1
  obtain ⟨b, hb, qb⟩ := h2 enc w fuel cs (fun g hg => hx g (by simp [hg])) (by omega)
  refine ⟨(a, b), ⟨(cs.drop f.offset).take (P.cellsOf f.type), cs.drop o, ?_, ha, hb⟩, qa, qb⟩
  rw [h1.1, ho, ← List.drop_drop, List.take_append_drop]
theorem opens_struct {α β : Type} {fs : Array Field} {d : Kd β} {q : β → Prop} (g : α → β) (mk : β → α) (hg : ∀ b, g (mk b) = b) (ht : P.underlying t = some (.struct fs)) (hc : P.cellsOf t = d.sz)
    (h : OpensF P fs.toList 0 d q) : Opens P t (Kd.iso d g) (fun a => q (g a)) :=
  ⟨hc, fun enc w fuel cs x hx => by
    obtain ⟨xs, n, _, _, hl, hn, hf⟩ := DataW.trod_struct ht hx
    obtain ⟨b, hb, qb⟩ := h enc w n cs (fun f hm => by
      obtain ⟨i, hi, rfl⟩ := List.getElem_of_mem hm
      have hi' : i < fs.size := by simpa using hi
      refine ⟨xs[i]'(by omega), ?_⟩
      rw [hf i _ (by simp [hi'])]
      exact List.getElem?_eq_getElem (by omega)) (by rw [hl, hc]; simp)
    refine ⟨mk b, ?_, by show q (g (mk b)); rw [hg]; exact qb⟩
    show d.K w (g (mk b)) cs
    rw [hg]
    simpa using hb⟩
theorem opens_imp {α : Type} {d : Kd α} {q q' : α → Prop} (h : Opens P t d q) (hi : ∀ a, q a → q' a) : Opens P t d q' :=
  ⟨h.1, fun enc w fuel cs x hx => by
    obtain ⟨a, ha, qa⟩ := h.2 enc w fuel cs x hx
    exact ⟨a, ha, hi a qa⟩⟩

/-- An argument that is a slice. -/
theorem arg_slice {H : Type} {enc : TypeId × Value → H} {W : World} {α : Type} {e : TypeId} {d : Kd α} {q : List α → Prop} (ho : Opens P t (Kd.slice e d) q) {v : Value} {x : DataW H} {ps : List MemPlace}
    (hone : v.cells.toList = [v]) (h : DataW.Trod enc P W 0 (fun _ => true) true t v x ps) : ∃ (A : Option Addr) (c : Nat) (l : List α), v = .slice A l.length c ∧ l.length ≤ c ∧ d.C W A l.length l ∧ q l := by
  obtain ⟨fuel, hf⟩ := h
  obtain ⟨l, ⟨A, c, hv, hl, hC⟩, hq⟩ := ho.2 enc W fuel _ _ hf
  rw [hone] at hv
  exact ⟨A, c, l, by simpa using hv, hl, hC, hq⟩
/-- An argument that is a struct. -/
theorem arg_agg {w : World} {r : Reach} {base : Nat} {fs : Array Field} {v : Value} {l : List Value} (ht : P.underlying t = some (.struct fs)) (hv : Value.okWide P w r base t v) (hcs : v.cells.toList = l) : v = .agg l.toArray := by
  obtain ⟨cs, rfl, _⟩ := okWide_struct ht hv
  rw [← hcs]
  simp [Value.cells]
/-- An argument that is an array of scalars. -/
theorem arg_arr {α : Type} {n : Nat} {e : TypeId} {enc : α → Value} {h1 : ∀ x, (enc x).oneCell' = true} {hs : 0 < (Kd.scalar enc h1).sz} {w w2 : World} {r : Reach} {base : Nat} {v : Value} {l : List α} (ht : P.underlying t = some (.array n e)) (hv : Value.okWide P w r base t v)
    (hk : (Kd.arr n (Kd.scalar enc h1) hs).K w2 l v.cells.toList) : v = .agg (l.map enc).toArray ∧ l.length = n := by
  have hv2 := hv
  simp only [Value.okWide, ht] at hv2
  obtain ⟨cs, rfl, _⟩ := hv2
  obtain ⟨h2, h3⟩ := Kd.arr_cells hk
  refine ⟨?_, h2⟩
  have h4 : cs.toList = l.map enc := by simpa [Value.cells, encs] using h3
  rw [← h4]
end
end Go.Proofs.Ytcddajdjmlmpdaa.Open
