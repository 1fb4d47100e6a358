/- The proof of the statement StorePeers of the seat, part 1 of 1: the functions that it reaches, as plain functions, with the walks that show it, and what they come to; the last part ends in the row. No condition beyond the statement's own. -/
import Derived.Deep.Slices
import Derived.ChangeArms
import Derived.Test.YtcddajdjmlmpdaaWWords
import Derived.Test.YtcddajdjmlmpdaaWArr
import Derived.OpenShut
import Derived.Test.YtcddajdjmlmpdaaPrK
import Derived.Test.YtcddajdjmlmpdaaRows
import Derived.Test.YtcddajdjmlmpdaaChecked
import Derived.JoinedOf
import Derived.KernelRfl
import Derived.Test.YtcddajdjmlmpdaaMaStore3
import Derived.Test.YtcddajdjmlmpdaaMaStore4
import Derived.Test.YtcddajdjmlmpdaaMaStore5
import Derived.Test.YtcddajdjmlmpdaaMaStore6
import Derived.Test.YtcddajdjmlmpdaaPr39
import Derived.Test.YtcddajdjmlmpdaaPr45
import Derived.Test.YtcddajdjmlmpdaaPureW
import Derived.Test.YtcddajdjmlmpdaaMaStore12
import Derived.Test.YtcddajdjmlmpdaaMaStore7
import Derived.IntWalk
import Derived.BigQuiet
import Derived.Deep.QuietTactic
import Derived.Deep.RegionLaw
import Derived.Deep.RegionHeld3
import Derived.RegionTactic
import Derived.Outline
import Derived.Laws.CopyOwn
import Derived.Test.YtcddajdjmlmpdaaMaNet2
import Derived.Test.YtcddajdjmlmpdaaMaStore8
import Derived.Deep.DeepCutAuto
import Derived.WalkKit
import Derived.ProofKit
import Derived.ShutString
import Derived.ChangeOld
import Derived.Below
import Derived.SizedLaws
import Derived.Carry
/-! #### Open -/
/- Opening what came in: data that reads at a type as a value of the print's kinds, whatever the nesting. -/
namespace Go.Proofs.Ytcddajdjmlmpdaa.Open
open Go.Deep Go.ChangeShapes Go.WideShapes Go.Proofs.YtcddajdjmlmpdaaW.PrintWords
set_option linter.unusedVariables false

/-- Whatever reads as data at type t is of kind d, and q holds of it. -/
def Opens (P : Program) (t : TypeId) {α : Type} (d : Kd α) (q : α → Prop) : Prop :=
  P.cellsOf t = d.sz ∧ ∀ {H : Type} (enc : TypeId × Value → H) (w : World) (fuel : Nat) (cs : List Value) (x : DataW H × List MemPlace),
    DataW.trod enc P w 0 (fun _ => true) true fuel t cs = some x → ∃ a : α, d.K w a cs ∧ q a

section
variable {P : Program} {t : TypeId}

theorem opens_int {k : IntKind} (ht : P.underlying t = some (.int k)) (hc : P.cellsOf t = 1) : Opens P t (Kd.int k) (fun n => (Lit.int k n).wf = true) :=
  ⟨hc, fun enc w fuel cs x h => by
    obtain ⟨n, rfl, _, hw⟩ := DataW.trod_int ht h
    exact ⟨n, rfl, hw⟩⟩
theorem opens_bool (ht : P.underlying t = some .bool) (hc : P.cellsOf t = 1) : Opens P t Kd.bool (fun _ => True) :=
  ⟨hc, fun enc w fuel cs x h => by
    obtain ⟨b, rfl, _⟩ := DataW.trod_bool ht h
    exact ⟨b, rfl, trivial⟩⟩
theorem opens_string (ht : P.underlying t = some .string) (hc : P.cellsOf t = 1) : Opens P t Kd.string (fun s => s.size ≤ maxLen) :=
  ⟨hc, fun enc w fuel cs x h => by
    obtain ⟨s, rfl, _, hs⟩ := DataW.trod_string ht h
    exact ⟨s, rfl, hs⟩⟩

theorem ofFn_get {α : Type} {n : Nat} (f : Fin n → α) (j : Nat) (p : α) (h : (List.ofFn f)[j]? = some p) : ∃ hj : j < n, p = f ⟨j, hj⟩ := by
  rw [List.getElem?_ofFn] at h
  split at h
  · exact ⟨_, (Option.some.inj h).symm⟩
  · cases h

theorem opens_slice {α : Type} {e : TypeId} {d : Kd α} {q : α → Prop} (ht : P.underlying t = some (.slice e)) (hc : P.cellsOf t = 1) (h : Opens P e d q) :
    Opens P t (Kd.slice e d) (fun l => l.length ≤ maxLen ∧ ∀ x ∈ l, q x) :=
  ⟨hc, fun enc w fuel cs x hx => by
    rcases open_slice ht hx with ⟨rfl, _⟩ | ⟨a, len, cap, m, n, D, Pl, rfl, _, hl, hm, hmm, _, hel⟩
    · exact ⟨[], ⟨none, 0, rfl, Nat.le_refl _, rfl, Nat.zero_le _, fun h0 => absurd h0 (by simp)⟩, Nat.zero_le _, fun x hx => by simp at hx⟩
    · simp only [if_true] at hmm
      subst hmm
      have one : ∀ i : Fin len, ∃ y : α, ∃ c, w.cells? 0 (a.add (i.val * P.cellsOf e)) (P.cellsOf e) = some c ∧ d.K w y c ∧ q y := by
        intro i
        obtain ⟨c, h1, h2⟩ := hel i.val (by omega)
        obtain ⟨y, h3, h4⟩ := h.2 enc w n c _ h2
        exact ⟨y, c, h1, h3, h4⟩
      have ex := Classical.axiomOfChoice one
      obtain ⟨f, hf⟩ := ex
      refine ⟨List.ofFn f, ⟨some a, m, by simp, by simpa using hl, by simp, ?_, fun h0 => ⟨a, rfl, fun j p hj => ?_⟩⟩, by simp; omega, fun x hx => ?_⟩
      · have : maxLen = 9223372036854775807 := rfl
        simp
        omega
      · obtain ⟨hj', rfl⟩ := ofFn_get f j p hj
        obtain ⟨c, h1, h3, h4⟩ := hf ⟨j, hj'⟩
        obtain ⟨_, hlc, hcell⟩ := World.cells?_some h1
        refine ⟨c, by rw [hlc, h.1], h3, fun i u hu => ?_⟩
        have hi : i < c.length := (List.getElem?_eq_some_iff.1 hu).1
        have h5 := hcell i (by omega)
        rw [Go.Deep.add_add, h.1] at h5
        exact h5.trans hu
      · obtain ⟨i, rfl⟩ := (List.mem_ofFn).1 hx
        obtain ⟨c, h1, h3, h4⟩ := hf i
        exact h4⟩

theorem opens_array {α : Type} {n : Nat} {e : TypeId} {d : Kd α} {q : α → Prop} (hs : 0 < d.sz) (ht : P.underlying t = some (.array n e)) (hc : P.cellsOf t = n * d.sz) (h : Opens P e d q) :
    Opens P t (Kd.arr n d hs) (fun l => l.length = n ∧ ∀ x ∈ l, q x) :=
  ⟨hc, fun enc w fuel cs x hx => by
    obtain ⟨xs, m, _, _, hl, hn, hf⟩ := DataW.trod_array ht hx
    have one : ∀ i : Fin n, ∃ y : α, d.K w y ((cs.drop (i.val * d.sz)).take d.sz) ∧ q y := by
      intro i
      have h1 := hf i.val i.isLt
      rw [h.1] at h1
      exact h.2 enc w m _ _ (h1.trans (List.getElem?_eq_getElem (by have := i.isLt; omega)))
    obtain ⟨f, hf2⟩ := Classical.axiomOfChoice one
    refine ⟨List.ofFn f, ⟨by simp, by rw [hl, hc]; simp, fun j p hj => ?_⟩, by simp, fun x hx => ?_⟩
    · obtain ⟨hj', rfl⟩ := ofFn_get f j p hj
      exact (hf2 ⟨j, hj'⟩).1
    · obtain ⟨i, rfl⟩ := (List.mem_ofFn).1 hx
      exact (hf2 i).2⟩

/-- The fields fs, which begin at cell o of a struct, as a kind. -/
def OpensF (P : Program) (fs : List Field) (o : Nat) {α : Type} (d : Kd α) (q : α → Prop) : Prop :=
  ∀ {H : Type} (enc : TypeId × Value → H) (w : World) (fuel : Nat) (cs : List Value),
    (∀ f ∈ fs, ∃ x, DataW.trod enc P w 0 (fun _ => true) true fuel f.type ((cs.drop f.offset).take (P.cellsOf f.type)) = some x) → cs.length = o + d.sz → ∃ a : α, d.K w a (cs.drop o) ∧ q a

theorem fields_one {α : Type} {f : Field} {d : Kd α} {q : α → Prop} (h : Opens P f.type d q) : OpensF P [f] f.offset d q := by
  intro H enc w fuel cs hx hl
  obtain ⟨x, hx⟩ := hx f (by simp)
  rw [h.1, List.take_of_length_le (by simp; omega)] at hx
  exact h.2 enc w fuel _ x hx
theorem fields_cons {α β : Type} {f : Field} {fs : List Field} {o : Nat} {d1 : Kd α} {d2 : Kd β} {q1 : α → Prop} {q2 : β → Prop} (h1 : Opens P f.type d1 q1) (ho : o = f.offset + d1.sz) (h2 : OpensF P fs o d2 q2) :
    OpensF P (f :: fs) f.offset (Kd.pair d1 d2) (fun x => q1 x.1 ∧ q2 x.2) := by
  intro H enc w fuel cs hx hl
  have hl' : cs.length = f.offset + (d1.sz + d2.sz) := hl
  obtain ⟨x, hx1⟩ := hx f (by simp)
  obtain ⟨a, ha, qa⟩ := h1.2 enc w fuel _ x hx1
  obtain ⟨b, hb, qb⟩ := h2 enc w fuel cs (fun g hg => hx g (by simp [hg])) (by omega)
  refine ⟨(a, b), ⟨(cs.drop f.offset).take (P.cellsOf f.type), cs.drop o, ?_, ha, hb⟩, qa, qb⟩
  rw [h1.1, ho, ← List.drop_drop, List.take_append_drop]
theorem opens_struct {α β : Type} {fs : Array Field} {d : Kd β} {q : β → Prop} (g : α → β) (mk : β → α) (hg : ∀ b, g (mk b) = b) (ht : P.underlying t = some (.struct fs)) (hc : P.cellsOf t = d.sz)
    (h : OpensF P fs.toList 0 d q) : Opens P t (Kd.iso d g) (fun a => q (g a)) :=
  ⟨hc, fun enc w fuel cs x hx => by
    obtain ⟨xs, n, _, _, hl, hn, hf⟩ := DataW.trod_struct ht hx
    obtain ⟨b, hb, qb⟩ := h enc w n cs (fun f hm => by
      obtain ⟨i, hi, rfl⟩ := List.getElem_of_mem hm
      have hi' : i < fs.size := by simpa using hi
      refine ⟨xs[i]'(by omega), ?_⟩
      rw [hf i _ (by simp [hi'])]
      exact List.getElem?_eq_getElem (by omega)) (by rw [hl, hc]; simp)
    refine ⟨mk b, ?_, by show q (g (mk b)); rw [hg]; exact qb⟩
    show d.K w (g (mk b)) cs
    rw [hg]
    simpa using hb⟩
theorem opens_imp {α : Type} {d : Kd α} {q q' : α → Prop} (h : Opens P t d q) (hi : ∀ a, q a → q' a) : Opens P t d q' :=
  ⟨h.1, fun enc w fuel cs x hx => by
    obtain ⟨a, ha, qa⟩ := h.2 enc w fuel cs x hx
    exact ⟨a, ha, hi a qa⟩⟩

/-- An argument that is a slice. -/
theorem arg_slice {H : Type} {enc : TypeId × Value → H} {W : World} {α : Type} {e : TypeId} {d : Kd α} {q : List α → Prop} (ho : Opens P t (Kd.slice e d) q) {v : Value} {x : DataW H} {ps : List MemPlace}
    (hone : v.cells.toList = [v]) (h : DataW.Trod enc P W 0 (fun _ => true) true t v x ps) : ∃ (A : Option Addr) (c : Nat) (l : List α), v = .slice A l.length c ∧ l.length ≤ c ∧ d.C W A l.length l ∧ q l := by
  obtain ⟨fuel, hf⟩ := h
  obtain ⟨l, ⟨A, c, hv, hl, hC⟩, hq⟩ := ho.2 enc W fuel _ _ hf
  rw [hone] at hv
  exact ⟨A, c, l, by simpa using hv, hl, hC, hq⟩
/-- An argument that is a struct. -/
theorem arg_agg {w : World} {r : Reach} {base : Nat} {fs : Array Field} {v : Value} {l : List Value} (ht : P.underlying t = some (.struct fs)) (hv : Value.okWide P w r base t v) (hcs : v.cells.toList = l) : v = .agg l.toArray := by
  obtain ⟨cs, rfl, _⟩ := okWide_struct ht hv
  rw [← hcs]
  simp [Value.cells]
/-- An argument that is an array of scalars. -/
theorem arg_arr {α : Type} {n : Nat} {e : TypeId} {enc : α → Value} {h1 : ∀ x, (enc x).oneCell' = true} {hs : 0 < (Kd.scalar enc h1).sz} {w w2 : World} {r : Reach} {base : Nat} {v : Value} {l : List α} (ht : P.underlying t = some (.array n e)) (hv : Value.okWide P w r base t v)
    (hk : (Kd.arr n (Kd.scalar enc h1) hs).K w2 l v.cells.toList) : v = .agg (l.map enc).toArray ∧ l.length = n := by
  have hv2 := hv
  simp only [Value.okWide, ht] at hv2
  obtain ⟨cs, rfl, _⟩ := hv2
  obtain ⟨h2, h3⟩ := Kd.arr_cells hk
  refine ⟨?_, h2⟩
  have h4 : cs.toList = l.map enc := by simpa [Value.cells, encs] using h3
  rw [← h4]
end
end Go.Proofs.Ytcddajdjmlmpdaa.Open
/-! #### Opn -/
-- By the kit's print, called by a program of this session with functions that are proved by hand.
namespace Go.Proofs.Ytcddajdjmlmpdaa.Print
open Go.RowKit Go.Proofs.YtcddajdjmlmpdaaW.PrintWords Go.Proofs.Ytcddajdjmlmpdaa.Open
set_option linter.unusedVariables false
set_option maxRecDepth 100000 in
theorem opens3 : Opens Try.prog 3 (Kd.int .i64) (fun x => (Lit.int .i64 x).wf = true) := opens_int Try.underlying3 (by kernel_rfl)
set_option maxRecDepth 100000 in
theorem opens9 : Opens Try.prog 9 Kd.string (fun x => (x : ByteArray).size ≤ maxLen) := opens_string Try.underlying9 (by kernel_rfl)
set_option maxRecDepth 100000 in
theorem opens41 : Opens Try.prog 41 k41 (fun x => ((Lit.int .i64 (x).f0).wf = true) ∧ ((Lit.int .i64 (x).f1).wf = true) ∧ (((x).f2 : ByteArray).size ≤ maxLen)) := by
  refine opens_struct (d := (Kd.pair (Kd.int .i64) (Kd.pair (Kd.int .i64) Kd.string))) (q := fun y : (Int) × (Int) × (ByteArray) => ((Lit.int .i64 (y.1)).wf = true) ∧ ((Lit.int .i64 (y.2.1)).wf = true) ∧ (((y.2.2) : ByteArray).size ≤ maxLen)) (fun x : S41 => (x.f0, x.f1, x.f2)) (fun p => ⟨p.1, p.2.1, p.2.2⟩) (fun _ => rfl) Try.underlying41 (by kernel_rfl) ?_
  change OpensF Try.prog [_, _, _] 0 _ _
  apply fields_cons (q1 := fun a : Int => (Lit.int .i64 a).wf = true) (q2 := fun y : (Int) × (ByteArray) => ((Lit.int .i64 (y.1)).wf = true) ∧ (((y.2) : ByteArray).size ≤ maxLen))
  · exact opens3
  · rfl
  apply fields_cons (q1 := fun a : Int => (Lit.int .i64 a).wf = true) (q2 := fun y : (ByteArray) => (((y) : ByteArray).size ≤ maxLen))
  · exact opens3
  · rfl
  apply fields_one (q := fun a : ByteArray => (a : ByteArray).size ≤ maxLen)
  exact opens9
set_option maxRecDepth 100000 in
theorem opens50 : Opens Try.prog 50 k50 (fun x => ((Lit.int .i64 (x).f0).wf = true) ∧ ((Lit.int .i64 (x).f1).wf = true) ∧ (((Lit.int .i64 ((x).f2).f0).wf = true) ∧ ((Lit.int .i64 ((x).f2).f1).wf = true) ∧ ((((x).f2).f2 : ByteArray).size ≤ maxLen))) := by
  refine opens_struct (d := (Kd.pair (Kd.int .i64) (Kd.pair (Kd.int .i64) k41))) (q := fun y : (Int) × (Int) × (S41) => ((Lit.int .i64 (y.1)).wf = true) ∧ ((Lit.int .i64 (y.2.1)).wf = true) ∧ (((Lit.int .i64 ((y.2.2)).f0).wf = true) ∧ ((Lit.int .i64 ((y.2.2)).f1).wf = true) ∧ ((((y.2.2)).f2 : ByteArray).size ≤ maxLen))) (fun x : S50 => (x.f0, x.f1, x.f2)) (fun p => ⟨p.1, p.2.1, p.2.2⟩) (fun _ => rfl) Try.underlying50 (by kernel_rfl) ?_
  change OpensF Try.prog [_, _, _] 0 _ _
  apply fields_cons (q1 := fun a : Int => (Lit.int .i64 a).wf = true) (q2 := fun y : (Int) × (S41) => ((Lit.int .i64 (y.1)).wf = true) ∧ (((Lit.int .i64 ((y.2)).f0).wf = true) ∧ ((Lit.int .i64 ((y.2)).f1).wf = true) ∧ ((((y.2)).f2 : ByteArray).size ≤ maxLen)))
  · exact opens3
  · rfl
  apply fields_cons (q1 := fun a : Int => (Lit.int .i64 a).wf = true) (q2 := fun y : (S41) => (((Lit.int .i64 ((y)).f0).wf = true) ∧ ((Lit.int .i64 ((y)).f1).wf = true) ∧ ((((y)).f2 : ByteArray).size ≤ maxLen)))
  · exact opens3
  · rfl
  apply fields_one (q := fun a : S41 => ((Lit.int .i64 (a).f0).wf = true) ∧ ((Lit.int .i64 (a).f1).wf = true) ∧ (((a).f2 : ByteArray).size ≤ maxLen))
  exact opens41
set_option maxRecDepth 100000 in
theorem opens47 : Opens Try.prog 47 (Kd.slice 50 k50) (fun x => (x : List (S50)).length ≤ maxLen ∧ ∀ x1_ ∈ (x : List (S50)), ((Lit.int .i64 (x1_).f0).wf = true) ∧ ((Lit.int .i64 (x1_).f1).wf = true) ∧ (((Lit.int .i64 ((x1_).f2).f0).wf = true) ∧ ((Lit.int .i64 ((x1_).f2).f1).wf = true) ∧ ((((x1_).f2).f2 : ByteArray).size ≤ maxLen))) := opens_slice Try.underlying47 (by kernel_rfl) opens50
set_option maxRecDepth 100000 in
theorem opens29 : Opens Try.prog 29 k29 (fun x => ((Lit.int .i64 (x).f0).wf = true) ∧ ((Lit.int .i64 (x).f1).wf = true) ∧ (((x).f2 : ByteArray).size ≤ maxLen)) := by
  refine opens_struct (d := (Kd.pair (Kd.int .i64) (Kd.pair (Kd.int .i64) Kd.string))) (q := fun y : (Int) × (Int) × (ByteArray) => ((Lit.int .i64 (y.1)).wf = true) ∧ ((Lit.int .i64 (y.2.1)).wf = true) ∧ (((y.2.2) : ByteArray).size ≤ maxLen)) (fun x : S29 => (x.f0, x.f1, x.f2)) (fun p => ⟨p.1, p.2.1, p.2.2⟩) (fun _ => rfl) Try.underlying29 (by kernel_rfl) ?_
  change OpensF Try.prog [_, _, _] 0 _ _
  apply fields_cons (q1 := fun a : Int => (Lit.int .i64 a).wf = true) (q2 := fun y : (Int) × (ByteArray) => ((Lit.int .i64 (y.1)).wf = true) ∧ (((y.2) : ByteArray).size ≤ maxLen))
  · exact opens3
  · rfl
  apply fields_cons (q1 := fun a : Int => (Lit.int .i64 a).wf = true) (q2 := fun y : (ByteArray) => (((y) : ByteArray).size ≤ maxLen))
  · exact opens3
  · rfl
  apply fields_one (q := fun a : ByteArray => (a : ByteArray).size ≤ maxLen)
  exact opens9
set_option maxRecDepth 100000 in
theorem opens30 : Opens Try.prog 30 (Kd.slice 3 (Kd.int .i64)) (fun x => (x : List Int).length ≤ maxLen ∧ ∀ x1_ ∈ (x : List Int), (Lit.int .i64 x1_).wf = true) := opens_slice Try.underlying30 (by kernel_rfl) opens3
set_option maxRecDepth 100000 in
theorem opens32 : Opens Try.prog 32 k32 (fun x => ((Lit.int .i64 (x).f0).wf = true) ∧ ((Lit.int .i64 (x).f1).wf = true) ∧ (((Lit.int .i64 ((x).f2).f0).wf = true) ∧ ((Lit.int .i64 ((x).f2).f1).wf = true) ∧ ((((x).f2).f2 : ByteArray).size ≤ maxLen)) ∧ (((x).f3 : List Int).length ≤ maxLen ∧ ∀ x1_ ∈ ((x).f3 : List Int), (Lit.int .i64 x1_).wf = true) ∧ (((x).f4 : ByteArray).size ≤ maxLen)) := by
  refine opens_struct (d := (Kd.pair (Kd.int .i64) (Kd.pair (Kd.int .i64) (Kd.pair k29 (Kd.pair (Kd.slice 3 (Kd.int .i64)) Kd.string))))) (q := fun y : (Int) × (Int) × (S29) × (List Int) × (ByteArray) => ((Lit.int .i64 (y.1)).wf = true) ∧ ((Lit.int .i64 (y.2.1)).wf = true) ∧ (((Lit.int .i64 ((y.2.2.1)).f0).wf = true) ∧ ((Lit.int .i64 ((y.2.2.1)).f1).wf = true) ∧ ((((y.2.2.1)).f2 : ByteArray).size ≤ maxLen)) ∧ (((y.2.2.2.1) : List Int).length ≤ maxLen ∧ ∀ x6_ ∈ ((y.2.2.2.1) : List Int), (Lit.int .i64 x6_).wf = true) ∧ (((y.2.2.2.2) : ByteArray).size ≤ maxLen)) (fun x : S32 => (x.f0, x.f1, x.f2, x.f3, x.f4)) (fun p => ⟨p.1, p.2.1, p.2.2.1, p.2.2.2.1, p.2.2.2.2⟩) (fun _ => rfl) Try.underlying32 (by kernel_rfl) ?_
  change OpensF Try.prog [_, _, _, _, _] 0 _ _
  apply fields_cons (q1 := fun a : Int => (Lit.int .i64 a).wf = true) (q2 := fun y : (Int) × (S29) × (List Int) × (ByteArray) => ((Lit.int .i64 (y.1)).wf = true) ∧ (((Lit.int .i64 ((y.2.1)).f0).wf = true) ∧ ((Lit.int .i64 ((y.2.1)).f1).wf = true) ∧ ((((y.2.1)).f2 : ByteArray).size ≤ maxLen)) ∧ (((y.2.2.1) : List Int).length ≤ maxLen ∧ ∀ x2_ ∈ ((y.2.2.1) : List Int), (Lit.int .i64 x2_).wf = true) ∧ (((y.2.2.2) : ByteArray).size ≤ maxLen))
  · exact opens3
  · rfl
  apply fields_cons (q1 := fun a : Int => (Lit.int .i64 a).wf = true) (q2 := fun y : (S29) × (List Int) × (ByteArray) => (((Lit.int .i64 ((y.1)).f0).wf = true) ∧ ((Lit.int .i64 ((y.1)).f1).wf = true) ∧ ((((y.1)).f2 : ByteArray).size ≤ maxLen)) ∧ (((y.2.1) : List Int).length ≤ maxLen ∧ ∀ x3_ ∈ ((y.2.1) : List Int), (Lit.int .i64 x3_).wf = true) ∧ (((y.2.2) : ByteArray).size ≤ maxLen))
  · exact opens3
  · rfl
  apply fields_cons (q1 := fun a : S29 => ((Lit.int .i64 (a).f0).wf = true) ∧ ((Lit.int .i64 (a).f1).wf = true) ∧ (((a).f2 : ByteArray).size ≤ maxLen)) (q2 := fun y : (List Int) × (ByteArray) => (((y.1) : List Int).length ≤ maxLen ∧ ∀ x4_ ∈ ((y.1) : List Int), (Lit.int .i64 x4_).wf = true) ∧ (((y.2) : ByteArray).size ≤ maxLen))
  · exact opens29
  · rfl
  apply fields_cons (q1 := fun a : List Int => (a : List Int).length ≤ maxLen ∧ ∀ x5_ ∈ (a : List Int), (Lit.int .i64 x5_).wf = true) (q2 := fun y : (ByteArray) => (((y) : ByteArray).size ≤ maxLen))
  · exact opens30
  · rfl
  apply fields_one (q := fun a : ByteArray => (a : ByteArray).size ≤ maxLen)
  exact opens9
set_option maxRecDepth 100000 in
theorem opens72 : Opens Try.prog 72 (Kd.slice 32 k32) (fun x => (x : List (S32)).length ≤ maxLen ∧ ∀ x1_ ∈ (x : List (S32)), ((Lit.int .i64 (x1_).f0).wf = true) ∧ ((Lit.int .i64 (x1_).f1).wf = true) ∧ (((Lit.int .i64 ((x1_).f2).f0).wf = true) ∧ ((Lit.int .i64 ((x1_).f2).f1).wf = true) ∧ ((((x1_).f2).f2 : ByteArray).size ≤ maxLen)) ∧ (((x1_).f3 : List Int).length ≤ maxLen ∧ ∀ x2_ ∈ ((x1_).f3 : List Int), (Lit.int .i64 x2_).wf = true) ∧ (((x1_).f4 : ByteArray).size ≤ maxLen)) := opens_slice Try.underlying72 (by kernel_rfl) opens32
end Go.Proofs.Ytcddajdjmlmpdaa.Print
/-! #### Fct -/
-- By the kit's print, called by a program of this session with functions that are proved by hand.
namespace Go.Proofs.Ytcddajdjmlmpdaa.Fct
theorem mayEnter : Try.pinned.checked.prog.mayEnter = true := by kernel_rfl
theorem liftsFinal : Try.pinned.checked.prog.liftsFinal = false := by kernel_rfl
theorem makes : Try.pinned.checked.prog.make = some .cut := by kernel_rfl
theorem lifts (b : Bool) (h : b = false) : (b == Try.pinned.checked.prog.liftsFinal) = true := by rw [h, liftsFinal]; rfl
theorem make_ (m : Make) (h : m = .cut) : (Try.pinned.checked.prog.make == some m) = true := by rw [h, makes]; rfl
end Go.Proofs.Ytcddajdjmlmpdaa.Fct
/-! #### MaStore13 -/
/- store: Add, whatever there is; what stays beside a store; Has. -/
namespace Go.Proofs.Ytcddajdjmlmpdaa.Print
open Go.RowKit Go.Proofs.YtcddajdjmlmpdaaW.PrintWords Go.Proofs.YtcddajdjmlmpdaaW.PrintLast Go.Proofs.YtcddajdjmlmpdaaW.PrintMore
open Go.Proofs.Ytcddajdjmlmpdaa.Pure (wrap_succ rd_lt)
set_option linter.unusedVariables false
set_option linter.unusedSimpArgs false

theorem hasL_ev (l : List Int) (n : Int) (hl : l.length < 1000000) : ∀ (d i : Nat), i + d = l.length → Ev (fun k => mosaicref09_Has.l0 k l n (i : Int)) (decide (n ∈ l.drop i))
  | 0, i, h => by
    refine Ev.succ ?_
    simp only [mosaicref09_Has.l0]
    refine Ev.neg (by omega) (Ev.some_ ?_)
    rw [List.drop_eq_nil_of_le (by omega)]
    simp
  | d + 1, i, h => by
    have hi : i < l.length := by omega
    refine Ev.succ ?_
    simp only [mosaicref09_Has.l0]
    rw [rd_lt l i hi, List.drop_eq_getElem_cons hi, wrap_succ i (by omega)]
    refine Ev.pos (by omega) (Ev.pos (by omega) ?_)
    by_cases hn : l[i] = n
    · exact Ev.pos hn (Ev.some_ (by rw [← hn]; exact (decide_eq_true List.mem_cons_self).symm))
    · refine Ev.neg hn ((hasL_ev l n hl d (i + 1) (by omega)).to ?_)
      rw [decide_eq_decide, List.mem_cons]
      exact ⟨fun h => .inr h, fun h => h.resolve_left (fun e => hn e.symm)⟩
theorem has_yes {W : World} {A : Option Addr} {c : Nat} {l : List Int} (h1 : Kd.C (Kd.int .i64) W A l.length l) (hc : l.length ≤ c) (hl : l.length < 1000000) (n : Int) (hn : n ∈ l) :
    Calls Try.prog 45 #[.slice A l.length c, .int .i64 n] W fun e W2 => e = .returned (.bool true) ∧ Below W.heap.size W W2 := by
  obtain ⟨k, hk⟩ := (hasL_ev l n hl l.length 0 (by omega)).rounds
  rw [List.drop_zero, decide_eq_true hn] at hk
  refine (mosaicref09_Has.calls k A c l n true W h1 hc hk).mono ?_
  rintro e W2 ⟨rfl, hd⟩
  exact ⟨rfl, hd.below⟩
section
variable {w W W2 : World} {g b1 b2 : Nat} {room last : Int} {m : SMs}
/-- What an entry is to be, or Add refuses it. -/
structure EnIn (x : En) : Prop where
  p : (Lit.int .i64 x.f1).wf = true
  a : (Lit.int .i64 x.f2.f0).wf = true
  b : (Lit.int .i64 x.f2.f1).wf = true
  s : x.f2.f2.size ≤ 1000000
  l : x.f3.length < 1000000
theorem StAt.Add_step (h : StAt w W g b1 b2 room last m) {A : Option Addr} {c : Nat} (x : En) (hr : RowAp W g b1 b2 A x.f3) (hc : x.f3.length ≤ c) (hx : EnIn x) (hl : last < 1000000000) :
    Calls Try.prog 14 #[.pointer (some ⟨g, 0, none⟩), .agg #[.int .i64 x.f0, .int .i64 x.f1, .int .i64 x.f2.f0, .int .i64 x.f2.f1, .string x.f2.f2, .slice A x.f3.length c, .string x.f4]] W fun e W2 => ∃ a b last2 m2, e = .returned (.tuple #[.int .i64 a, .int .i64 b]) ∧ StDid w W W2 g b1 b2 room last2 m2 ∧ last2 ≤ last + 1 ∧ m2.length ≤ m.length + 1 := by
  cases hm : mayE x with
  | false =>
    refine (h.Add_bad x hr hc hm).mono ?_
    rintro e W2 ⟨rfl, hb⟩
    exact ⟨_, _, last, m, rfl, h.stay hb, by omega, by omega⟩
  | true =>
    have hk : EnOk x := ⟨hx.p, hx.a, hx.b, hx.s, by
      have h0 : 0 < x.f3.length := by
        unfold mayE at hm
        simp only [Bool.and_eq_true, decide_eq_true_eq] at hm
        exact hm.2.1
      exact ⟨h0, hx.l⟩⟩
    cases ht : thereS m x with
    | true =>
      refine (h.Add_there x hr hc hm hk ht).mono ?_
      rintro e W2 ⟨rfl, hb⟩
      exact ⟨_, _, last, m, rfl, h.stay hb, by omega, by omega⟩
    | false =>
      by_cases hf : room ≤ (m.length : Int)
      · refine (h.Add_full x hr hc hm hk ht hf).mono ?_
        rintro e W2 ⟨rfl, hb⟩
        exact ⟨_, _, last, m, rfl, h.stay hb, by omega, by omega⟩
      · refine (h.Add_ok x hr hc hm hk ht (by omega) hl).mono ?_
        rintro e W2 ⟨v, rfl, d⟩
        exact ⟨_, _, last + 1, _, rfl, d, by omega, by simp⟩
/-- Rows stay where a store's acts write. -/
theorem rows_footS {α : Type} {d : Kd α} {e : Nat} {base : Nat} {ok : Nat → Prop} {v : Value} {xs : List α} (h : Kd.R d e W base ok v xs) (hk : Kept W W2 (FootS W)) (ht : ∀ q, q ∈ e :: d.E → q ≠ 101) : Kd.R d e W2 base ok v xs :=
  Kd.R_mono (Kd.R_move (Kd.R_bound h) (fun k hk1 => by
    obtain ⟨_, _, hk3, q, hq, cells, hc⟩ := hk1
    exact hk.2 k hk3 (footS_not hc (ht q hq)))) (fun _ hk => hk.1)
theorem few_true {a b c d e f : Int} {s : ByteArray} {l : List Int} {t : ByteArray} (h : mosaiclaw14_few.f a b c d e f s l t = some true) : l.length ≤ 170 ∧ s.size ≤ 100 := by
  unfold mosaiclaw14_few.f at h
  split at h
  · split at h
    · have := of_decide_eq_true (Option.some.inj h)
      omega
    · exact absurd (Option.some.inj h) (by simp)
  · exact absurd (Option.some.inj h) (by simp)
end
end Go.Proofs.Ytcddajdjmlmpdaa.Print
/-! #### MaStoreNil -/
/- The law StoreNil, by hand. -/
-- MANUAL mosaic/mosaiclaw14.StoreNil making plain
namespace Go.Proofs.Ytcddajdjmlmpdaa.Print
open Go.RowKit Go.Proofs.YtcddajdjmlmpdaaW.PrintWords Go.Proofs.YtcddajdjmlmpdaaW.PrintLast Go.Proofs.YtcddajdjmlmpdaaW.PrintMore
set_option linter.unusedVariables false
set_option linter.unusedSimpArgs false

theorem few_some (a b c d e f : Int) (s : ByteArray) (l : List Int) (t : ByteArray) : ∃ r, mosaiclaw14_few.f a b c d e f s l t = some r := by
  unfold mosaiclaw14_few.f
  split
  · split
    · exact ⟨_, rfl⟩
    · exact ⟨_, rfl⟩
  · exact ⟨_, rfl⟩
def mosaiclaw14_StoreNil.f (a0_0 a0_1 a0_2 a0_3 : Int) (a0_4 : ByteArray) (l0_5 : List Int) (a0_6 : ByteArray) (a1 : Int) : Option Bool := some true
set_option maxHeartbeats 4000000 in
set_option maxRecDepth 100000 in
theorem mosaiclaw14_StoreNil.calls (a0_0 a0_1 a0_2 a0_3 : Int) (a0_4 : ByteArray) (A0_5 : Option Addr) (c0_5 : Nat) (l0_5 : List Int) (a0_6 : ByteArray) (a1 : Int) (r : Bool) (w : World) (hr0_5 : Kd.C (Kd.int .i64) w A0_5 l0_5.length l0_5) (hc0_5 : l0_5.length ≤ c0_5) (h : mosaiclaw14_StoreNil.f a0_0 a0_1 a0_2 a0_3 a0_4 l0_5 a0_6 a1 = some r) :
    Calls Try.prog 11 #[.agg #[.int .i64 a0_0, .int .i64 a0_1, .int .i64 a0_2, .int .i64 a0_3, .string a0_4, .slice A0_5 l0_5.length c0_5, .string a0_6], .int .i64 a1] w fun e w' => e = .returned (.bool r) ∧ Below w.heap.size w w' := by
  obtain rfl := Option.some.inj (show some true = some r from h)
  clear h
  have HX := Aside0.mk (heap_alloc_new w (.cells #[.int .i64 a0_0, .int .i64 a0_1, .int .i64 a0_2, .int .i64 a0_3, .string a0_4, .slice A0_5 l0_5.length c0_5, .string a0_6] 32))
  have HB0 := Aside0.mk (below_alloc (Below.refl w.heap.size w) (.cells #[.int .i64 a0_0, .int .i64 a0_1, .int .i64 a0_2, .int .i64 a0_3, .string a0_4, .slice A0_5 l0_5.length c0_5, .string a0_6] 32))
  obtain ⟨b, hf⟩ := few_some 0 0 a0_0 a0_1 a0_2 a0_3 a0_4 l0_5 a0_6
  have HF := Aside0.mk (mosaiclaw14_few.calls 0 0 a0_0 a0_1 a0_2 a0_3 a0_4 A0_5 c0_5 l0_5 a0_6 b _ (Kd.C_below hr0_5 HB0.out) hc0_5 hf)
  clear hr0_5 hc0_5 hf
  cases b with
  | false =>
    go_enter Try.func11, Try.ntmps11
    go_wp2_with fail
    refine HF.out.mono ?_
    rintro e W2 ⟨rfl, hb⟩
    have HB2 := Aside0.mk (below_step HB0.out hb)
    clear hb HF
    go_wp2_with fail
    refine (awake14 _).mono ?_
    rintro e W3 ⟨rfl, hb⟩
    have HB3 := Aside0.mk (below_step HB2.out hb)
    clear hb
    go_wp2_with fail
    go_ret
    exact ⟨rfl, HB3.out⟩
  | true =>
    go_enter Try.func11, Try.ntmps11
    go_wp2_with fail
    refine HF.out.mono ?_
    rintro e W2 ⟨rfl, hb⟩
    have HB2 := Aside0.mk (below_step HB0.out hb)
    have HX2 := Aside0.mk (blk_below HX.out hb)
    clear hb HF HX
    have c0 := (show W2.cell? ⟨w.heap.size, 0, none⟩ = some (.int .i64 a0_0) from blk_cell HX2.out 0)
    have c1 := (show W2.cell? ⟨w.heap.size, 1, none⟩ = some (.int .i64 a0_1) from blk_cell HX2.out 1)
    have c2 := (show W2.cell? ⟨w.heap.size, 2, none⟩ = some (.int .i64 a0_2) from blk_cell HX2.out 2)
    have c3 := (show W2.cell? ⟨w.heap.size, 3, none⟩ = some (.int .i64 a0_3) from blk_cell HX2.out 3)
    have c4 := (show W2.cell? ⟨w.heap.size, 4, none⟩ = some (.string a0_4) from blk_cell HX2.out 4)
    have c5 := (show W2.cell? ⟨w.heap.size, 5, none⟩ = some (.slice A0_5 l0_5.length c0_5) from blk_cell HX2.out 5)
    have c6 := (show W2.cell? ⟨w.heap.size, 6, none⟩ = some (.string a0_6) from blk_cell HX2.out 6)
    go_wp2_with fail
    refine (AddS_nil (⟨a0_0, a0_1, ⟨a0_2, a0_3, a0_4⟩, l0_5, a0_6⟩ : En) W2).mono ?_
    rintro e W3 ⟨rfl, hb⟩
    have HB3 := Aside0.mk (below_step HB2.out hb)
    clear hb c0 c1 c2 c3 c4 c5 c6 HX2 HB2 HB0
    go_wp2_with fail
    refine (GetS_nil a1 W3).mono ?_
    rintro e W4 ⟨rfl, hb⟩
    have HB4 := Aside0.mk (below_step HB3.out hb)
    clear hb HB3
    go_wp2_with fail
    refine (awake14 _).mono ?_
    rintro e W5 ⟨rfl, hb⟩
    have HB5 := Aside0.mk (below_step (below_alloc HB4.out _) hb)
    clear hb HB4
    go_wp2_with (first
      | (go_at_call 16; refine (DropS_nil a1 _).mono ?_; rintro e W6 ⟨rfl, rfl⟩)
      | (go_at_call 40; refine (DropPeerS_nil a1 _).mono ?_; rintro e W7 ⟨rfl, hb⟩; have HB7 := Aside0.mk (below_step HB5.out hb); clear hb)
      | (go_at_call 44; refine (AllS_nil _).mono ?_; rintro e W8 ⟨rfl, hb⟩; have HB8 := Aside0.mk (below_step HB7.out hb); clear hb)
      | (go_at_call 46; refine (OfS_nil a1 _).mono ?_; rintro e W9 ⟨rfl, hb⟩; have HB9 := Aside0.mk (below_step HB8.out hb); clear hb)
      | (go_at_call 53; refine (WithS_nil a1 _).mono ?_; rintro e W10 ⟨rfl, hb⟩; have HB10 := Aside0.mk (below_step HB9.out hb); clear hb)
      | (go_at_call 17; refine (LenS_nil _).mono ?_; rintro e W11 ⟨rfl, rfl⟩)
      | (go_at_call 47; refine (RoomS_nil _).mono ?_; rintro e W12 ⟨rfl, rfl⟩))
    go_ret
    exact ⟨rfl, HB10.out⟩
end Go.Proofs.Ytcddajdjmlmpdaa.Print
/-! #### MaStorePeers -/
/- The law StorePeers, by hand. -/
-- MANUAL mosaic/mosaiclaw14.StorePeers making plain
namespace Go.Proofs.Ytcddajdjmlmpdaa.Print
open Go.RowKit Go.Proofs.YtcddajdjmlmpdaaW.PrintWords Go.Proofs.YtcddajdjmlmpdaaW.PrintLast Go.Proofs.YtcddajdjmlmpdaaW.PrintMore
set_option linter.unusedVariables false
set_option linter.unusedSimpArgs false

theorem rdE (l : List En) (i : Nat) (h : i < l.length) : rd_T32 l (i : Int) = l[i] := by
  unfold rd_T32
  rw [Int.toNat_natCast, List.getD_eq_getElem?_getD, List.getElem?_eq_getElem h]
  rfl
theorem entsS_len (m : SMs) : (entsS m).length = m.length := List.length_map _
theorem filt_get {α : Type} (p : α → Bool) : ∀ (m : List α) (i : Nat) (hi : i < m.length), p m[i] = true → (m.filter p)[((m.take i).filter p).length]? = some m[i]
  | x :: t, 0, hi, h => by
    have h' : p x = true := h
    simp [List.filter_cons, h']
  | x :: t, i + 1, hi, h => by
    have ih := filt_get p t i (by simpa using hi) (by simpa using h)
    rw [List.take_succ_cons, List.filter_cons, List.filter_cons]
    by_cases hx : p x = true
    · rw [if_pos hx, if_pos hx, List.length_cons, List.getElem?_cons_succ, ih]
      simp
    · rw [if_neg hx, if_neg hx, ih]
      simp
theorem filt_take {α : Type} (p : α → Bool) (m : List α) (i : Nat) (hi : i < m.length) : ((m.take (i + 1)).filter p).length = ((m.take i).filter p).length + (if p m[i] = true then 1 else 0) := by
  rw [List.take_add_one, List.getElem?_eq_getElem hi, List.filter_append, List.length_append]
  congr 1
  by_cases hp : p m[i] = true
  · simp [hp]
  · simp [hp]
theorem filt_le {α : Type} (p : α → Bool) (m : List α) (i : Nat) : ((m.take i).filter p).length ≤ (m.filter p).length := (List.Sublist.filter p (List.take_sublist i m)).length_le
theorem part_len (p : En → Bool) (m : SMs) : (idsS p m).length + (m.filter fun q => !p q.1).length = m.length := by
  unfold idsS
  rw [List.length_map]
  induction m with
  | nil => rfl
  | cons x t ih =>
    rw [List.filter_cons, List.filter_cons]
    cases hx : p x.1 with
    | true =>
      simp [hx]
      omega
    | false =>
      simp [hx]
      omega
theorem ids_none (p : En → Bool) (m : SMs) : idsS p (m.filter fun q => !p q.1) = [] := by
  unfold idsS
  rw [List.filter_filter, List.map_eq_nil_iff, List.filter_eq_nil_iff]
  intro q hq
  cases p q.1 <;> simp
def mosaiclaw14_StorePeers.f (l0 : List S32) (a1 : Int) : Option Bool := if ∀ x ∈ l0, (Lit.int .i64 x.f1).wf = true ∧ (Lit.int .i64 x.f2.f0).wf = true ∧ (Lit.int .i64 x.f2.f1).wf = true then some true else none
set_option maxHeartbeats 8000000 in
set_option maxRecDepth 100000 in
theorem mosaiclaw14_StorePeers.calls (A0 : Option Addr) (c0 : Nat) (l0 : List S32) (peer : Int) (r : Bool) (w : World) (hr0 : Kd.C k32 w A0 l0.length l0) (hc0 : l0.length ≤ c0) (h : mosaiclaw14_StorePeers.f l0 peer = some r) :
    Calls Try.prog 9 #[.slice A0 l0.length c0, .int .i64 peer] w fun e w' => e = .returned (.bool r) ∧ Below w.heap.size w w' := by
  unfold mosaiclaw14_StorePeers.f at h
  split at h
  · rename_i hwf
    obtain rfl := Option.some.inj h
    clear h
    have HR := Aside0.mk hr0
    have HWF := Aside0.mk hwf
    clear hr0 hc0 hwf
    go_enter Try.func9, Try.ntmps9
    go_wp2_with fail
    refine (NewS_yes 30 _ (by decide) (by decide)).mono ?_
    rintro e W1 ⟨g, b1, b2, rfl, t⟩
    have T1 := Aside0.mk t
    clear t
    go_wp2_with fail
    refine (awake14 _).mono ?_
    rintro e W2 ⟨rfl, hb⟩
    have T2 := Aside0.mk (T1.out.below hb)
    clear hb T1
    go_wp2_with fail
    go_loopg [6] 31 (fun gg v6 wr => ∃ (i : Nat) (last : Int) (m : SMs), v6 = .int .i64 i ∧ Aside0 (i + gg = 31) ∧ Aside0 (StAt w wr g b1 b2 30 last m) ∧ Aside0 (last ≤ (i : Int) ∧ m.length ≤ i))
    case atStart => exact ⟨0, 0, [], rfl, ⟨by omega⟩, T2, ⟨by omega, by simp⟩⟩
    case round =>
      clear T2
      obtain ⟨i, last, m, rfl, HG, HT, HM⟩ := hrel
      by_cases hin : (i : Int) < (l0.length : Int) ∧ (i : Int) < 30
      · obtain ⟨hlt, h30⟩ := hin
        obtain ⟨gg, rfl⟩ : ∃ z, gk = z + 1 := ⟨gk - 1, by have := HG.out; omega⟩
        have hil : i < l0.length := by omega
        have hz := at_T32 HR.out (i : Int) (by omega) hlt
        have HQ := Aside0.mk (HWF.out l0[i] (List.getElem_mem hil))
        rw [rdE l0 i hil, Int.toNat_natCast] at hz
        generalize l0[i] = x at hz HQ
        obtain ⟨ad, A5, c5, hA, y0, y1, y2, y3, y4, y5, y6, hcc, hC⟩ := hz
        subst hA
        have HZ := Aside0.mk (fun (W' : World) (hb : Below w.heap.size w W') => And.intro (pw_cell_below hb y0) (And.intro (pw_cell_below hb y1) (And.intro (pw_cell_below hb y2) (And.intro (pw_cell_below hb y3) (And.intro (pw_cell_below hb y4) (And.intro (pw_cell_below hb y5) (pw_cell_below hb y6)))))))
        clear y0 y1 y2 y3 y4 y5 y6
        obtain ⟨z0, z1, z2, z3, z4, z5, z6⟩ := HZ.out wr HT.out.bel
        obtain ⟨b, hf⟩ := few_some 0 0 x.f0 x.f1 x.f2.f0 x.f2.f1 x.f2.f2 x.f3 x.f4
        have HF := Aside0.mk (mosaiclaw14_few.calls 0 0 x.f0 x.f1 x.f2.f0 x.f2.f1 x.f2.f2 A5 c5 x.f3 x.f4 b wr (Kd.C_below hC HT.out.bel) hcc hf)
        have HFT := Aside0.mk hf
        have HCC := Aside0.mk hcc
        have HC := Aside0.mk hC
        clear hf hcc hC
        go_wp2_with fail
        refine HF.out.mono ?_
        rintro e W3 ⟨rfl, hb⟩
        have T3 := Aside0.mk (HT.out.below hb)
        clear HF hb HT z0 z1 z2 z3 z4 z5 z6
        cases b with
        | false =>
          go_wp2_with fail
          go_roundg gg
          case measure => omega
          case rel => exact ⟨i + 1, last, m, by go_num, ⟨by have := HG.out; omega⟩, T3, ⟨by have := HM.out.1; omega, by have := HM.out.2; omega⟩⟩
        | true =>
          have HFB := Aside0.mk (few_true HFT.out)
          have HADD := Aside0.mk (T3.out.Add_step x (RowAp.old HC.out T3.out) HCC.out ⟨HQ.out.1, HQ.out.2.1, HQ.out.2.2, by have := HFB.out.2; omega, by have := HFB.out.1; omega⟩ (by have := HM.out.1; omega))
          obtain ⟨z0, z1, z2, z3, z4, z5, z6⟩ := HZ.out W3 T3.out.bel
          go_wp2_with fail
          refine HADD.out.mono ?_
          rintro e W4 ⟨ra, rb, last2, m2, rfl, d, hl2, hm2⟩
          have T4 := Aside0.mk d.st
          clear d T3 HADD z0 z1 z2 z3 z4 z5 z6
          go_wp2_with fail
          go_roundg gg
          case measure => omega
          case rel => exact ⟨i + 1, last2, m2, by go_num, ⟨by have := HG.out; omega⟩, T4, ⟨by have := HM.out.1; omega, by have := HM.out.2; omega⟩⟩
      · have hE : ((i : Int) < (l0.length : Int)) = False ∨ (((i : Int) < (l0.length : Int)) = True ∧ ((i : Int) < 30) = False) := by
          by_cases hlt : (i : Int) < (l0.length : Int)
          · exact .inr ⟨eq_true hlt, eq_false (fun h30 => hin ⟨hlt, h30⟩)⟩
          · exact .inl (eq_false hlt)
        rcases hE with hE | ⟨hE, hE2⟩
        all_goals
          have hi31 : i ≤ 31 := by have := HG.out; omega
          have HLA := Aside0.mk (show last < 1000000000 by have := HM.out.1; omega)
          have HLM := Aside0.mk (show m.length < 1000000 by have := HM.out.2; omega)
          have HALL := Aside0.mk (HT.out.All_any HLM.out HLA.out)
          clear hin
          go_wp2_with fail
          refine HALL.out.mono ?_
          rintro e W3 ⟨v7, rfl, hr7, hb7⟩
          obtain ⟨A7, c7, hv7⟩ := Kd.R_slice hr7
          subst hv7
          rw [entsS_len] at hr7 ⊢
          have T3 := Aside0.mk (HT.out.below hb7)
          have HR7 := Aside0.mk (Kd.R_lower hr7 HT.out.bel.size)
          clear hr7 hb7 HALL HT
          have HDP := Aside0.mk (T3.out.DropPeer_any HLM.out HLA.out peer)
          go_wp2_with fail
          refine HDP.out.mono ?_
          rintro e W4 ⟨A8, c8, rfl, hr8, d⟩
          have T4 := Aside0.mk d.st
          have HR74 := Aside0.mk (rows_footS HR7.out d.kept (by decide))
          have HR8 := Aside0.mk (Kd.R_lower hr8 T3.out.bel.size)
          clear hr8 d T3 HR7 HDP
          have HLN := Aside0.mk (show (m.filter fun q => !(q.1.f1 == peer)).length < 1000000 from Nat.lt_of_le_of_lt (List.length_filter_le _ _) HLM.out)
          have HALL := Aside0.mk (T4.out.All_any HLN.out HLA.out)
          go_wp2_with fail
          refine HALL.out.mono ?_
          rintro e W5 ⟨v9, rfl, hr9, hb9⟩
          obtain ⟨A9, c9, hv9⟩ := Kd.R_slice hr9
          subst hv9
          rw [entsS_len] at hr9 ⊢
          have T5 := Aside0.mk (T4.out.below hb9)
          have HR9 := Aside0.mk (Kd.R_lower hr9 T4.out.bel.size)
          have HR75 := Aside0.mk (Kd.R_below HR74.out hb9)
          have HR85 := Aside0.mk (Kd.R_below HR8.out hb9)
          clear hr9 hb9 HALL T4 HR74 HR8
          go_wp2_with fail
          have C7 := Aside0.mk (show Kd.C k32 W5 A7 m.length (entsS m) by have := (Kd.R_reads' HR75.out).2.2; rw [entsS_len] at this; exact this)
          have C8 := Aside0.mk (Kd.R_reads' HR85.out)
          have C9 := Aside0.mk (show Kd.C k32 W5 A9 (m.filter (fun q : En × Value => !(q.1.f1 == peer))).length (entsS (m.filter (fun q : En × Value => !(q.1.f1 == peer)))) by have := (Kd.R_reads' HR9.out).2.2; rw [entsS_len] at this; exact this)
          have HOF := Aside0.mk (fun (W' : World) (hb : Below W5.heap.size W5 W') => (T5.out.below hb).Of_any HLN.out peer)
          rw [ids_none] at HOF
          have HSUM := Aside0.mk (part_len (fun x => x.f1 == peer) m)
          have HSL := Aside0.mk (Nat.lt_of_le_of_lt (idsS_len (fun x => x.f1 == peer) m) HLM.out)
          clear HR75 HR85 HR9 HR HWF HM HG
          go_loopg [10, 11] (m.length + 1) (fun gz v10 v11 wq => ∃ (j : Nat), v11 = .int .i64 j ∧ v10 = .int .i64 (((m.take j).filter (fun q : En × Value => !(q.1.f1 == peer))).length : Nat) ∧ Aside0 (j + gz = m.length + 1) ∧ Aside0 (Below W5.heap.size W5 wq))
          case atStart => exact ⟨0, rfl, by simp, ⟨by omega⟩, ⟨by repeat (first | (with_reducible first | exact Below.refl _ _ | apply below_alloc | apply pw_below_drewN | apply below_drew1) | exact Below.refl _ _)⟩⟩
          case round =>
            obtain ⟨j, rfl, rfl, HG2, HB2⟩ := hrel
            by_cases hj : j < m.length
            · obtain ⟨gz, rfl⟩ : ∃ z, gk = z + 1 := ⟨gk - 1, by have := HG2.out; omega⟩
              have hjl : ((j : Int) < (m.length : Int)) = True := eq_true (by omega)
              have hjl2 : ((j : Int) < (m.length : Int)) := by omega
              have hov : IntKind.i64.wrap ((j : Int) + 1) = (j : Int) + 1 := IntWalk.i64_in _ (by have := HLM.out; omega)
              obtain ⟨ad7, A5, c5, hA, z0, z1, _, _, _, _, _, _, _⟩ := at_T32 (Kd.C_below C7.out HB2.out) (j : Int) (by omega) hjl2
              subst hA
              rw [rdE (entsS m) j (by rw [entsS_len]; exact hj), Int.toNat_natCast, show (entsS m)[j]'(by rw [entsS_len]; exact hj) = m[j].1 by unfold entsS; rw [List.getElem_map]] at z0 z1
              have HTK := Aside0.mk (filt_take (fun q : En × Value => !(q.1.f1 == peer)) m j hj)
              by_cases hp : (m[j].1.f1 == peer) = true
              · have HMEM := Aside0.mk (show m[j].1.f0 ∈ idsS (fun x => x.f1 == peer) m from List.mem_map.2 ⟨m[j], List.mem_filter.2 ⟨List.getElem_mem hj, hp⟩, rfl⟩)
                have HTK2 := Aside0.mk (show ((m.take (j + 1)).filter (fun q : En × Value => !(q.1.f1 == peer))).length = ((m.take j).filter (fun q : En × Value => !(q.1.f1 == peer))).length by rw [HTK.out]; simp [hp])
                generalize m[j].1 = x at z0 z1 hp HMEM
                have HHAS := Aside0.mk (has_yes (Kd.C_below C8.out.2.2 HB2.out) C8.out.2.1 HSL.out x.f0 HMEM.out)
                clear HTK
                go_wp2_with (go_at_call 45; refine HHAS.out.mono ?_; rintro e W7 ⟨rfl, hb⟩; have HB7 := Aside0.mk (below_step HB2.out hb); clear hb z0 z1)
                go_roundg gz
                case measure => omega
                case rel => exact ⟨j + 1, by go_num, by rw [HTK2.out], ⟨by have := HG2.out; omega⟩, HB7⟩
              · have hp' : (m[j].1.f1 == peer) = false := by simpa using hp
                have hgt := filt_get (fun q : En × Value => !(q.1.f1 == peer)) m j hj (by simp [hp'])
                have HTK2 := Aside0.mk (show ((m.take (j + 1)).filter (fun q : En × Value => !(q.1.f1 == peer))).length = ((m.take j).filter (fun q : En × Value => !(q.1.f1 == peer))).length + 1 by rw [HTK.out]; simp [hp'])
                have hkl : ((m.take j).filter (fun q : En × Value => !(q.1.f1 == peer))).length < (m.filter (fun q : En × Value => !(q.1.f1 == peer))).length := by
                  have h1 := filt_le (fun q : En × Value => !(q.1.f1 == peer)) m (j + 1)
                  rw [HTK2.out] at h1
                  omega
                generalize hkk : ((m.take j).filter (fun q : En × Value => !(q.1.f1 == peer))).length = kk at hgt hkl HTK2 ⊢
                have hkl2 : ((kk : Int) < ((m.filter (fun q : En × Value => !(q.1.f1 == peer))).length : Int)) := by omega
                have hle : (((m.filter (fun q : En × Value => !(q.1.f1 == peer))).length : Int) ≤ (kk : Int)) = False := eq_false (by omega)
                have hle2 : ((m.filter (fun q : En × Value => !(q.1.f1 == peer))).length ≤ kk) = False := eq_false (by omega)
                have hovk : IntKind.i64.wrap ((kk : Int) + 1) = (kk : Int) + 1 := IntWalk.i64_in _ (by have := HLN.out; omega)
                obtain ⟨ad9, A6, c6, hA, q0, _, _, _, _, _, _, _, _⟩ := at_T32 (Kd.C_below C9.out HB2.out) (kk : Int) (by omega) hkl2
                subst hA
                rw [rdE (entsS (m.filter (fun q : En × Value => !(q.1.f1 == peer)))) kk (by rw [entsS_len]; exact hkl), Int.toNat_natCast, show (entsS (m.filter (fun q : En × Value => !(q.1.f1 == peer))))[kk]'(by rw [entsS_len]; exact hkl) = m[j].1 by
                  rw [List.getElem?_eq_getElem hkl] at hgt
                  unfold entsS
                  rw [List.getElem_map, Option.some.inj hgt]] at q0
                generalize m[j].1 = x at z0 z1 hp' q0
                clear hgt hp HTK
                go_wp2_with fail
                go_quiet (fail)
                go_wp2_with fail
                go_roundg gz
                case measure => omega
                case rel => exact ⟨j + 1, by go_num, by rw [HTK2.out]; go_num, ⟨by have := HG2.out; omega⟩, ⟨pw_below_drewN HB2.out _⟩⟩
            · have hjl : ((j : Int) < (m.length : Int)) = False := eq_false (by omega)
              have hjl2 : (j < m.length) = False := eq_false hj
              rw [show m.take j = m from List.take_of_length_le (by omega)]
              have hsum : IntKind.i64.wrap (((idsS (fun x => x.f1 == peer) m).length : Int) + ((m.filter (fun q : En × Value => !(q.1.f1 == peer))).length : Int)) = (m.length : Int) := by
                have h1 := HSUM.out
                have h2 := HLM.out
                rw [IntWalk.i64_in _ (by omega)]
                omega
              have HOF2 := Aside0.mk (HOF.out wr HB2.out)
              go_wp2_with (go_at_call 46; refine HOF2.out.mono ?_; rintro e W8 ⟨v, rfl, hr, hb⟩; obtain ⟨A8_, c8_, hv⟩ := Kd.R_slice hr; subst hv; have HB8 := Aside0.mk (below_step HB2.out hb); clear hr hb)
              go_ret
              exact ⟨rfl, below_step T5.out.bel HB8.out⟩
  · cases h
end Go.Proofs.Ytcddajdjmlmpdaa.Print
/-! #### StmStorePeers -/
-- By the kit's print, called by a program of this session with functions that are proved by hand.
namespace Go.Proofs.Ytcddajdjmlmpdaa.Print
open Go.RowKit Go.Proofs.YtcddajdjmlmpdaaW.PrintWords
/-- THE ONE PURE STATEMENT of mosaiclaw14_StorePeers. -/
def mosaiclaw14_StorePeers.Pure : Prop := ∀ (l0 : List (S32)) (a1 : Int), ((l0 : List (S32)).length ≤ maxLen ∧ ∀ x1_ ∈ (l0 : List (S32)), ((Lit.int .i64 (x1_).f0).wf = true) ∧ ((Lit.int .i64 (x1_).f1).wf = true) ∧ (((Lit.int .i64 ((x1_).f2).f0).wf = true) ∧ ((Lit.int .i64 ((x1_).f2).f1).wf = true) ∧ ((((x1_).f2).f2 : ByteArray).size ≤ maxLen)) ∧ (((x1_).f3 : List Int).length ≤ maxLen ∧ ∀ x2_ ∈ ((x1_).f3 : List Int), (Lit.int .i64 x2_).wf = true) ∧ (((x1_).f4 : ByteArray).size ≤ maxLen)) → ((Lit.int .i64 a1).wf = true) → mosaiclaw14_StorePeers.f l0 a1 = some true
end Go.Proofs.Ytcddajdjmlmpdaa.Print
/-! #### PureStorePeers -/
/- The pure statement of StorePeers. -/
namespace Go.Proofs.Ytcddajdjmlmpdaa.Pure
open Go.RowKit Go.Proofs.Ytcddajdjmlmpdaa.Print Go.Proofs.YtcddajdjmlmpdaaW.PrintWords
set_option linter.unusedVariables false
theorem StorePeers : mosaiclaw14_StorePeers.Pure := by
  unfold mosaiclaw14_StorePeers.Pure
  intro l0 a1 h0 h1
  unfold mosaiclaw14_StorePeers.f
  exact if_pos fun x hx => ⟨(h0.2 x hx).2.1, (h0.2 x hx).2.2.1.1, (h0.2 x hx).2.2.1.2.1⟩
end Go.Proofs.Ytcddajdjmlmpdaa.Pure
/-! #### LawStorePeers -/
/- The given statement StorePeersSaid is proved: the law mosaiclaw14_StorePeers returns true for every input, without a panic; out of its pure statement (YtcddajdjmlmpdaaPureStorePeers) and the walks of the functions that it reaches; no condition beyond the statement's own. -/
namespace Go.Proofs.Ytcddajdjmlmpdaa.storePeers
open Go.ChangeShapes Go.WideShapes Go.ChangeAt Go.RowKit Go.Proofs.Ytcddajdjmlmpdaa.Print Go.Proofs.YtcddajdjmlmpdaaW.PrintWords Go.Proofs.Ytcddajdjmlmpdaa.Open
open Go.ChangeMaps (open_string shut_string)
set_option linter.unusedVariables false
set_option linter.unusedSimpArgs false
theorem own : ownKnob Try.prog.godebug = none := by kernel_rfl
theorem laidOut : laidOutB Try.prog = true := by kernel_rfl
set_option maxRecDepth 100000 in
theorem lifted (os : Os) (started : os.Started) (H : Type) (enc : TypeId × Value → H) :
    ReturnsInHanded {} Try.checked os 9 .any (Rows.storePeersSpec.pre6 enc Try.prog Try.f9 Rows.storePeersRow.domain false) (Rows.storePeersSpec.post enc Try.prog Try.f9 false true false false) := by
  refine returnsInHanded_of_change_sized (C := Try.checked) own started (by kernel_rfl) Try.func9
    (ChangeSpec.witness6 (enc := enc) (C := Try.checked) false ⟨#[], #[.slice none 0 0, .int .i64 0], []⟩ 8 (by kernel_rfl) (by kernel_rfl) (by kernel_rfl) (by kernel_rfl)) ?_
  intro W base args ds gs before hval0 hW hcnd hsz0 _
  have hval : ∀ (j : Nat) t v, Try.f9.params[j]? = some t → args[j]? = some v → Value.okWide Try.prog W .any base t v := hval0
  have hW' := hW
  obtain ⟨p, q, hA0, hV, rfl, hfz, hnd⟩ := hW
  have hA : DataW.TrodAll enc Try.prog W 0 (fun _ => true) true Try.f9.params.toList args.toList ds p := hA0
  rw [Try.params9] at hA hval
  obtain ⟨v0, vs0, d0, ds0, p0, q0, hargs, rfl, rfl, h0, r0⟩ := trodAll_cons hA
  obtain ⟨v1, vs1, d1, ds1, p1, q1, rfl, rfl, rfl, h1, r1⟩ := trodAll_cons r0
  obtain ⟨rfl, rfl, rfl⟩ := trodAll_nil r1
  obtain rfl : args = #[v0, v1] := by cases args; simp_all
  obtain ⟨rfl, rfl⟩ := trodVars_none hV
  have lt0 : ∀ x ∈ p0, x.block < W.heap.size := by obtain ⟨m, hm⟩ := h0; exact DataW.trod_lt m _ _ _ hm
  have k0 := h0
  have one0 : v0.cells.toList = [v0] := by obtain ⟨a_, len_, cap_, rfl⟩ := okWide_slice Try.underlying72 (hval 0 72 v0 rfl rfl); rfl
  obtain ⟨A0, c0, l0, rfl, hc0, hr0, hq0⟩ := arg_slice opens72 one0 h0
  obtain ⟨a1, rfl, rfl, rfl, w1⟩ := open_int Try.underlying3 (hval 1 3 v1 rfl rfl) h1
  clear hA0 hval0 hsz0
  have hkk := Pure.StorePeers (l0) (a1) hq0 w1
  refine (mosaiclaw14_StorePeers.calls A0 c0 l0 a1 true W hr0 hc0 hkk).mono ?_
  rintro e W' ⟨rfl, hd_⟩
  have bel : Below W.heap.size W W' := hd_
  exact ⟨_, rfl, _, _, _, [], _, [], hW', trodAll_mk1 (shut_bool Try.underlying4 _), (trodAll_cons_mk (Below.trod laidOut (by kernel_rfl) (of_decide_eq_true (by kernel_rfl)) k0 bel lt0) (trodAll_cons_mk (shut_int Try.underlying3 w1) trodAll_mk0)), rfl, bel.frame _, fun h => by cases h⟩
theorem facts : joinedFacts Try.pinned.checked.prog 9 Try.f9 Rows.storePeersSpec Rows.storePeersRow = true := by
  unfold joinedFacts
  simp only [Bool.and_eq_true]
  repeat' apply And.intro
  any_goals (with_reducible exact Fct.mayEnter)
  any_goals ((with_reducible refine Fct.lifts _ ?_); rfl)
  any_goals ((with_reducible refine Fct.make_ _ ?_); rfl)
  all_goals (as_aux_lemma => kernel_rfl)
theorem over : Rows.storePeersRow.holds Try.pinned (OpenSpec.ofChange Rows.storePeersSpec) :=
  OpenClaim.holds_of_wide 9 Try.f9 rfl rfl rfl rfl rfl rfl rfl ⟨rfl, rfl, rfl, rfl, rfl⟩ rfl rfl rfl rfl rfl (by as_aux_lemma => kernel_rfl) Try.func9 facts
    (of_decide_eq_true (by as_aux_lemma => kernel_rfl)) (by unfold Func.isWrapper; first | (rw [if_pos (by decide +kernel)]; as_aux_lemma => kernel_rfl) | (rw [if_neg (by decide +kernel)]; exact ⟨rfl, rfl⟩))
    (fun os started H enc _ => lifted os started H enc)
theorem proved : Rows.StorePeersSaid := over
#print axioms proved
end Go.Proofs.Ytcddajdjmlmpdaa.storePeers
namespace Go.Proofs.Ytcddajdjmlmpdaa
/-- The row, under a short name, for the claim. -/
theorem storePeers_holds : Rows.StorePeersSaid := storePeers.proved
end Go.Proofs.Ytcddajdjmlmpdaa
