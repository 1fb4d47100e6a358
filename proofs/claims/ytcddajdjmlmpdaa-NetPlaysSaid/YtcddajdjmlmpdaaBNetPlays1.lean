/- The proof of the statement NetPlays of the seat, part 1 of 1: the functions that it reaches, as plain functions, with the walks that show it, and what they come to; the last part ends in the row. No condition beyond the statement's own. -/
import Derived.Deep.Slices
import Derived.ChangeArms
import Derived.Test.YtcddajdjmlmpdaaWWords
import Derived.Test.YtcddajdjmlmpdaaWArr
import Derived.OpenShut
import Derived.Test.YtcddajdjmlmpdaaPrK
import Derived.Test.YtcddajdjmlmpdaaRows
import Derived.Test.YtcddajdjmlmpdaaChecked
import Derived.JoinedOf
import Derived.KernelRfl
import Derived.Test.YtcddajdjmlmpdaaMaNetPlays
import Derived.Test.YtcddajdjmlmpdaaPureW
import Derived.WalkKit
import Derived.ProofKit
import Derived.ShutString
import Derived.ChangeOld
import Derived.Below
import Derived.SizedLaws
import Derived.Carry
/-! #### Open -/
/- Opening what came in: data that reads at a type as a value of the print's kinds, whatever the nesting. -/
namespace Go.Proofs.Ytcddajdjmlmpdaa.Open
open Go.Deep Go.ChangeShapes Go.WideShapes Go.Proofs.YtcddajdjmlmpdaaW.PrintWords
set_option linter.unusedVariables false

/-- Whatever reads as data at type t is of kind d, and q holds of it. -/
def Opens (P : Program) (t : TypeId) {α : Type} (d : Kd α) (q : α → Prop) : Prop :=
  P.cellsOf t = d.sz ∧ ∀ {H : Type} (enc : TypeId × Value → H) (w : World) (fuel : Nat) (cs : List Value) (x : DataW H × List MemPlace),
    DataW.trod enc P w 0 (fun _ => true) true fuel t cs = some x → ∃ a : α, d.K w a cs ∧ q a

section
variable {P : Program} {t : TypeId}

theorem opens_int {k : IntKind} (ht : P.underlying t = some (.int k)) (hc : P.cellsOf t = 1) : Opens P t (Kd.int k) (fun n => (Lit.int k n).wf = true) :=
  ⟨hc, fun enc w fuel cs x h => by
    obtain ⟨n, rfl, _, hw⟩ := DataW.trod_int ht h
    exact ⟨n, rfl, hw⟩⟩
theorem opens_bool (ht : P.underlying t = some .bool) (hc : P.cellsOf t = 1) : Opens P t Kd.bool (fun _ => True) :=
  ⟨hc, fun enc w fuel cs x h => by
    obtain ⟨b, rfl, _⟩ := DataW.trod_bool ht h
    exact ⟨b, rfl, trivial⟩⟩
theorem opens_string (ht : P.underlying t = some .string) (hc : P.cellsOf t = 1) : Opens P t Kd.string (fun s => s.size ≤ maxLen) :=
  ⟨hc, fun enc w fuel cs x h => by
    obtain ⟨s, rfl, _, hs⟩ := DataW.trod_string ht h
    exact ⟨s, rfl, hs⟩⟩

theorem ofFn_get {α : Type} {n : Nat} (f : Fin n → α) (j : Nat) (p : α) (h : (List.ofFn f)[j]? = some p) : ∃ hj : j < n, p = f ⟨j, hj⟩ := by
  rw [List.getElem?_ofFn] at h
  split at h
  · exact ⟨_, (Option.some.inj h).symm⟩
  · cases h

theorem opens_slice {α : Type} {e : TypeId} {d : Kd α} {q : α → Prop} (ht : P.underlying t = some (.slice e)) (hc : P.cellsOf t = 1) (h : Opens P e d q) :
    Opens P t (Kd.slice e d) (fun l => l.length ≤ maxLen ∧ ∀ x ∈ l, q x) :=
  ⟨hc, fun enc w fuel cs x hx => by
    rcases open_slice ht hx with ⟨rfl, _⟩ | ⟨a, len, cap, m, n, D, Pl, rfl, _, hl, hm, hmm, _, hel⟩
    · exact ⟨[], ⟨none, 0, rfl, Nat.le_refl _, rfl, Nat.zero_le _, fun h0 => absurd h0 (by simp)⟩, Nat.zero_le _, fun x hx => by simp at hx⟩
    · simp only [if_true] at hmm
      subst hmm
      have one : ∀ i : Fin len, ∃ y : α, ∃ c, w.cells? 0 (a.add (i.val * P.cellsOf e)) (P.cellsOf e) = some c ∧ d.K w y c ∧ q y := by
        intro i
        obtain ⟨c, h1, h2⟩ := hel i.val (by omega)
        obtain ⟨y, h3, h4⟩ := h.2 enc w n c _ h2
        exact ⟨y, c, h1, h3, h4⟩
      have ex := Classical.axiomOfChoice one
      obtain ⟨f, hf⟩ := ex
      refine ⟨List.ofFn f, ⟨some a, m, by simp, by simpa using hl, by simp, ?_, fun h0 => ⟨a, rfl, fun j p hj => ?_⟩⟩, by simp; omega, fun x hx => ?_⟩
      · have : maxLen = 9223372036854775807 := rfl
        simp
        omega
      · obtain ⟨hj', rfl⟩ := ofFn_get f j p hj
        obtain ⟨c, h1, h3, h4⟩ := hf ⟨j, hj'⟩
        obtain ⟨_, hlc, hcell⟩ := World.cells?_some h1
        refine ⟨c, by rw [hlc, h.1], h3, fun i u hu => ?_⟩
        have hi : i < c.length := (List.getElem?_eq_some_iff.1 hu).1
        have h5 := hcell i (by omega)
        rw [Go.Deep.add_add, h.1] at h5
        exact h5.trans hu
      · obtain ⟨i, rfl⟩ := (List.mem_ofFn).1 hx
        obtain ⟨c, h1, h3, h4⟩ := hf i
        exact h4⟩

theorem opens_array {α : Type} {n : Nat} {e : TypeId} {d : Kd α} {q : α → Prop} (hs : 0 < d.sz) (ht : P.underlying t = some (.array n e)) (hc : P.cellsOf t = n * d.sz) (h : Opens P e d q) :
    Opens P t (Kd.arr n d hs) (fun l => l.length = n ∧ ∀ x ∈ l, q x) :=
  ⟨hc, fun enc w fuel cs x hx => by
    obtain ⟨xs, m, _, _, hl, hn, hf⟩ := DataW.trod_array ht hx
    have one : ∀ i : Fin n, ∃ y : α, d.K w y ((cs.drop (i.val * d.sz)).take d.sz) ∧ q y := by
      intro i
      have h1 := hf i.val i.isLt
      rw [h.1] at h1
      exact h.2 enc w m _ _ (h1.trans (List.getElem?_eq_getElem (by have := i.isLt; omega)))
    obtain ⟨f, hf2⟩ := Classical.axiomOfChoice one
    refine ⟨List.ofFn f, ⟨by simp, by rw [hl, hc]; simp, fun j p hj => ?_⟩, by simp, fun x hx => ?_⟩
    · obtain ⟨hj', rfl⟩ := ofFn_get f j p hj
      exact (hf2 ⟨j, hj'⟩).1
    · obtain ⟨i, rfl⟩ := (List.mem_ofFn).1 hx
      exact (hf2 i).2⟩

/-- The fields fs, which begin at cell o of a struct, as a kind. -/
def OpensF (P : Program) (fs : List Field) (o : Nat) {α : Type} (d : Kd α) (q : α → Prop) : Prop :=
  ∀ {H : Type} (enc : TypeId × Value → H) (w : World) (fuel : Nat) (cs : List Value),
    (∀ f ∈ fs, ∃ x, DataW.trod enc P w 0 (fun _ => true) true fuel f.type ((cs.drop f.offset).take (P.cellsOf f.type)) = some x) → cs.length = o + d.sz → ∃ a : α, d.K w a (cs.drop o) ∧ q a

theorem fields_one {α : Type} {f : Field} {d : Kd α} {q : α → Prop} (h : Opens P f.type d q) : OpensF P [f] f.offset d q := by
  intro H enc w fuel cs hx hl
  obtain ⟨x, hx⟩ := hx f (by simp)
  rw [h.1, List.take_of_length_le (by simp; omega)] at hx
  exact h.2 enc w fuel _ x hx
theorem fields_cons {α β : Type} {f : Field} {fs : List Field} {o : Nat} {d1 : Kd α} {d2 : Kd β} {q1 : α → Prop} {q2 : β → Prop} (h1 : Opens P f.type d1 q1) (ho : o = f.offset + d1.sz) (h2 : OpensF P fs o d2 q2) :
    OpensF P (f :: fs) f.offset (Kd.pair d1 d2) (fun x => q1 x.1 ∧ q2 x.2) := by
  intro H enc w fuel cs hx hl
  have hl' : cs.length = f.offset + (d1.sz + d2.sz) := hl
  obtain ⟨x, hx1⟩ := hx f (by simp)
  obtain ⟨a, ha, qa⟩ := h1.2 enc w fuel _ x hx1
  obtain ⟨b, hb, qb⟩ := h2 enc w fuel cs (fun g hg => hx g (by simp [hg])) (by omega)
  refine ⟨(a, b), ⟨(cs.drop f.offset).take (P.cellsOf f.type), cs.drop o, ?_, ha, hb⟩, qa, qb⟩
  rw [h1.1, ho, ← List.drop_drop, List.take_append_drop]
theorem opens_struct {α β : Type} {fs : Array Field} {d : Kd β} {q : β → Prop} (g : α → β) (mk : β → α) (hg : ∀ b, g (mk b) = b) (ht : P.underlying t = some (.struct fs)) (hc : P.cellsOf t = d.sz)
    (h : OpensF P fs.toList 0 d q) : Opens P t (Kd.iso d g) (fun a => q (g a)) :=
  ⟨hc, fun enc w fuel cs x hx => by
    obtain ⟨xs, n, _, _, hl, hn, hf⟩ := DataW.trod_struct ht hx
    obtain ⟨b, hb, qb⟩ := h enc w n cs (fun f hm => by
      obtain ⟨i, hi, rfl⟩ := List.getElem_of_mem hm
      have hi' : i < fs.size := by simpa using hi
      refine ⟨xs[i]'(by omega), ?_⟩
      rw [hf i _ (by simp [hi'])]
      exact List.getElem?_eq_getElem (by omega)) (by rw [hl, hc]; simp)
    refine ⟨mk b, ?_, by show q (g (mk b)); rw [hg]; exact qb⟩
    show d.K w (g (mk b)) cs
    rw [hg]
    simpa using hb⟩
theorem opens_imp {α : Type} {d : Kd α} {q q' : α → Prop} (h : Opens P t d q) (hi : ∀ a, q a → q' a) : Opens P t d q' :=
  ⟨h.1, fun enc w fuel cs x hx => by
    obtain ⟨a, ha, qa⟩ := h.2 enc w fuel cs x hx
    exact ⟨a, ha, hi a qa⟩⟩

/-- An argument that is a slice. -/
theorem arg_slice {H : Type} {enc : TypeId × Value → H} {W : World} {α : Type} {e : TypeId} {d : Kd α} {q : List α → Prop} (ho : Opens P t (Kd.slice e d) q) {v : Value} {x : DataW H} {ps : List MemPlace}
    (hone : v.cells.toList = [v]) (h : DataW.Trod enc P W 0 (fun _ => true) true t v x ps) : ∃ (A : Option Addr) (c : Nat) (l : List α), v = .slice A l.length c ∧ l.length ≤ c ∧ d.C W A l.length l ∧ q l := by
  obtain ⟨fuel, hf⟩ := h
  obtain ⟨l, ⟨A, c, hv, hl, hC⟩, hq⟩ := ho.2 enc W fuel _ _ hf
  rw [hone] at hv
  exact ⟨A, c, l, by simpa using hv, hl, hC, hq⟩
/-- An argument that is a struct. -/
theorem arg_agg {w : World} {r : Reach} {base : Nat} {fs : Array Field} {v : Value} {l : List Value} (ht : P.underlying t = some (.struct fs)) (hv : Value.okWide P w r base t v) (hcs : v.cells.toList = l) : v = .agg l.toArray := by
  obtain ⟨cs, rfl, _⟩ := okWide_struct ht hv
  rw [← hcs]
  simp [Value.cells]
/-- An argument that is an array of scalars. -/
theorem arg_arr {α : Type} {n : Nat} {e : TypeId} {enc : α → Value} {h1 : ∀ x, (enc x).oneCell' = true} {hs : 0 < (Kd.scalar enc h1).sz} {w w2 : World} {r : Reach} {base : Nat} {v : Value} {l : List α} (ht : P.underlying t = some (.array n e)) (hv : Value.okWide P w r base t v)
    (hk : (Kd.arr n (Kd.scalar enc h1) hs).K w2 l v.cells.toList) : v = .agg (l.map enc).toArray ∧ l.length = n := by
  have hv2 := hv
  simp only [Value.okWide, ht] at hv2
  obtain ⟨cs, rfl, _⟩ := hv2
  obtain ⟨h2, h3⟩ := Kd.arr_cells hk
  refine ⟨?_, h2⟩
  have h4 : cs.toList = l.map enc := by simpa [Value.cells, encs] using h3
  rw [← h4]
end
end Go.Proofs.Ytcddajdjmlmpdaa.Open
/-! #### Opn -/
-- By the kit's print, called by a program of this session with functions that are proved by hand.
namespace Go.Proofs.Ytcddajdjmlmpdaa.Print
open Go.RowKit Go.Proofs.YtcddajdjmlmpdaaW.PrintWords Go.Proofs.Ytcddajdjmlmpdaa.Open
set_option linter.unusedVariables false
set_option maxRecDepth 100000 in
theorem opens3 : Opens Try.prog 3 (Kd.int .i64) (fun x => (Lit.int .i64 x).wf = true) := opens_int Try.underlying3 (by kernel_rfl)
set_option maxRecDepth 100000 in
theorem opens9 : Opens Try.prog 9 Kd.string (fun x => (x : ByteArray).size ≤ maxLen) := opens_string Try.underlying9 (by kernel_rfl)
set_option maxRecDepth 100000 in
theorem opens41 : Opens Try.prog 41 k41 (fun x => ((Lit.int .i64 (x).f0).wf = true) ∧ ((Lit.int .i64 (x).f1).wf = true) ∧ (((x).f2 : ByteArray).size ≤ maxLen)) := by
  refine opens_struct (d := (Kd.pair (Kd.int .i64) (Kd.pair (Kd.int .i64) Kd.string))) (q := fun y : (Int) × (Int) × (ByteArray) => ((Lit.int .i64 (y.1)).wf = true) ∧ ((Lit.int .i64 (y.2.1)).wf = true) ∧ (((y.2.2) : ByteArray).size ≤ maxLen)) (fun x : S41 => (x.f0, x.f1, x.f2)) (fun p => ⟨p.1, p.2.1, p.2.2⟩) (fun _ => rfl) Try.underlying41 (by kernel_rfl) ?_
  change OpensF Try.prog [_, _, _] 0 _ _
  apply fields_cons (q1 := fun a : Int => (Lit.int .i64 a).wf = true) (q2 := fun y : (Int) × (ByteArray) => ((Lit.int .i64 (y.1)).wf = true) ∧ (((y.2) : ByteArray).size ≤ maxLen))
  · exact opens3
  · rfl
  apply fields_cons (q1 := fun a : Int => (Lit.int .i64 a).wf = true) (q2 := fun y : (ByteArray) => (((y) : ByteArray).size ≤ maxLen))
  · exact opens3
  · rfl
  apply fields_one (q := fun a : ByteArray => (a : ByteArray).size ≤ maxLen)
  exact opens9
set_option maxRecDepth 100000 in
theorem opens50 : Opens Try.prog 50 k50 (fun x => ((Lit.int .i64 (x).f0).wf = true) ∧ ((Lit.int .i64 (x).f1).wf = true) ∧ (((Lit.int .i64 ((x).f2).f0).wf = true) ∧ ((Lit.int .i64 ((x).f2).f1).wf = true) ∧ ((((x).f2).f2 : ByteArray).size ≤ maxLen))) := by
  refine opens_struct (d := (Kd.pair (Kd.int .i64) (Kd.pair (Kd.int .i64) k41))) (q := fun y : (Int) × (Int) × (S41) => ((Lit.int .i64 (y.1)).wf = true) ∧ ((Lit.int .i64 (y.2.1)).wf = true) ∧ (((Lit.int .i64 ((y.2.2)).f0).wf = true) ∧ ((Lit.int .i64 ((y.2.2)).f1).wf = true) ∧ ((((y.2.2)).f2 : ByteArray).size ≤ maxLen))) (fun x : S50 => (x.f0, x.f1, x.f2)) (fun p => ⟨p.1, p.2.1, p.2.2⟩) (fun _ => rfl) Try.underlying50 (by kernel_rfl) ?_
  change OpensF Try.prog [_, _, _] 0 _ _
  apply fields_cons (q1 := fun a : Int => (Lit.int .i64 a).wf = true) (q2 := fun y : (Int) × (S41) => ((Lit.int .i64 (y.1)).wf = true) ∧ (((Lit.int .i64 ((y.2)).f0).wf = true) ∧ ((Lit.int .i64 ((y.2)).f1).wf = true) ∧ ((((y.2)).f2 : ByteArray).size ≤ maxLen)))
  · exact opens3
  · rfl
  apply fields_cons (q1 := fun a : Int => (Lit.int .i64 a).wf = true) (q2 := fun y : (S41) => (((Lit.int .i64 ((y)).f0).wf = true) ∧ ((Lit.int .i64 ((y)).f1).wf = true) ∧ ((((y)).f2 : ByteArray).size ≤ maxLen)))
  · exact opens3
  · rfl
  apply fields_one (q := fun a : S41 => ((Lit.int .i64 (a).f0).wf = true) ∧ ((Lit.int .i64 (a).f1).wf = true) ∧ (((a).f2 : ByteArray).size ≤ maxLen))
  exact opens41
set_option maxRecDepth 100000 in
theorem opens47 : Opens Try.prog 47 (Kd.slice 50 k50) (fun x => (x : List (S50)).length ≤ maxLen ∧ ∀ x1_ ∈ (x : List (S50)), ((Lit.int .i64 (x1_).f0).wf = true) ∧ ((Lit.int .i64 (x1_).f1).wf = true) ∧ (((Lit.int .i64 ((x1_).f2).f0).wf = true) ∧ ((Lit.int .i64 ((x1_).f2).f1).wf = true) ∧ ((((x1_).f2).f2 : ByteArray).size ≤ maxLen))) := opens_slice Try.underlying47 (by kernel_rfl) opens50
end Go.Proofs.Ytcddajdjmlmpdaa.Print
/-! #### Fct -/
-- By the kit's print, called by a program of this session with functions that are proved by hand.
namespace Go.Proofs.Ytcddajdjmlmpdaa.Fct
theorem mayEnter : Try.pinned.checked.prog.mayEnter = true := by kernel_rfl
theorem liftsFinal : Try.pinned.checked.prog.liftsFinal = false := by kernel_rfl
theorem makes : Try.pinned.checked.prog.make = some .cut := by kernel_rfl
theorem lifts (b : Bool) (h : b = false) : (b == Try.pinned.checked.prog.liftsFinal) = true := by rw [h, liftsFinal]; rfl
theorem make_ (m : Make) (h : m = .cut) : (Try.pinned.checked.prog.make == some m) = true := by rw [h, makes]; rfl
end Go.Proofs.Ytcddajdjmlmpdaa.Fct
/-! #### StmNetPlays -/
-- By the kit's print, called by a program of this session with functions that are proved by hand.
namespace Go.Proofs.Ytcddajdjmlmpdaa.Print
open Go.RowKit Go.Proofs.YtcddajdjmlmpdaaW.PrintWords
/-- THE ONE PURE STATEMENT of mosaiclaw21_NetPlays. -/
def mosaiclaw21_NetPlays.Pure : Prop := ∀ (a0 : Int) (l1 : List (S50)) (a2 : Int), ((Lit.int .i64 a0).wf = true) → ((l1 : List (S50)).length ≤ maxLen ∧ ∀ x1_ ∈ (l1 : List (S50)), ((Lit.int .i64 (x1_).f0).wf = true) ∧ ((Lit.int .i64 (x1_).f1).wf = true) ∧ (((Lit.int .i64 ((x1_).f2).f0).wf = true) ∧ ((Lit.int .i64 ((x1_).f2).f1).wf = true) ∧ ((((x1_).f2).f2 : ByteArray).size ≤ maxLen))) → ((Lit.int .i64 a2).wf = true) → mosaiclaw21_NetPlays.f a0 l1 a2 = some true
end Go.Proofs.Ytcddajdjmlmpdaa.Print
/-! #### PureNetPlays -/
/- The pure statement of NetPlays. -/
namespace Go.Proofs.Ytcddajdjmlmpdaa.Pure
open Go.RowKit Go.Proofs.Ytcddajdjmlmpdaa.Print Go.Proofs.YtcddajdjmlmpdaaW.PrintWords
set_option linter.unusedVariables false
theorem NetPlays : mosaiclaw21_NetPlays.Pure := by
  unfold mosaiclaw21_NetPlays.Pure
  intro a0 l1 a2 h0 h1 h2
  unfold mosaiclaw21_NetPlays.f
  exact if_pos fun x hx => wf64 (h1.2 x hx).2.1
end Go.Proofs.Ytcddajdjmlmpdaa.Pure
/-! #### LawNetPlays -/
/- The given statement NetPlaysSaid is proved: the law mosaiclaw21_NetPlays returns true for every input, without a panic; out of its pure statement (YtcddajdjmlmpdaaPureNetPlays) and the walks of the functions that it reaches; no condition beyond the statement's own. -/
namespace Go.Proofs.Ytcddajdjmlmpdaa.netPlays
open Go.ChangeShapes Go.WideShapes Go.ChangeAt Go.RowKit Go.Proofs.Ytcddajdjmlmpdaa.Print Go.Proofs.YtcddajdjmlmpdaaW.PrintWords Go.Proofs.Ytcddajdjmlmpdaa.Open
open Go.ChangeMaps (open_string shut_string)
set_option linter.unusedVariables false
set_option linter.unusedSimpArgs false
theorem own : ownKnob Try.prog.godebug = none := by kernel_rfl
theorem laidOut : laidOutB Try.prog = true := by kernel_rfl
set_option maxRecDepth 100000 in
theorem lifted (os : Os) (started : os.Started) (H : Type) (enc : TypeId × Value → H) :
    ReturnsInHanded {} Try.checked os 6 .any (Rows.netPlaysSpec.pre6 enc Try.prog Try.f6 Rows.netPlaysRow.domain false) (Rows.netPlaysSpec.post enc Try.prog Try.f6 false true false false) := by
  refine returnsInHanded_of_change_sized (C := Try.checked) own started (by kernel_rfl) Try.func6
    (ChangeSpec.witness6 (enc := enc) (C := Try.checked) false ⟨#[], #[.int .i64 0, .slice none 0 0, .int .i64 0], []⟩ 8 (by kernel_rfl) (by kernel_rfl) (by kernel_rfl) (by kernel_rfl)) ?_
  intro W base args ds gs before hval0 hW hcnd hsz0 _
  have hval : ∀ (j : Nat) t v, Try.f6.params[j]? = some t → args[j]? = some v → Value.okWide Try.prog W .any base t v := hval0
  have hW' := hW
  obtain ⟨p, q, hA0, hV, rfl, hfz, hnd⟩ := hW
  have hA : DataW.TrodAll enc Try.prog W 0 (fun _ => true) true Try.f6.params.toList args.toList ds p := hA0
  rw [Try.params6] at hA hval
  obtain ⟨v0, vs0, d0, ds0, p0, q0, hargs, rfl, rfl, h0, r0⟩ := trodAll_cons hA
  obtain ⟨v1, vs1, d1, ds1, p1, q1, rfl, rfl, rfl, h1, r1⟩ := trodAll_cons r0
  obtain ⟨v2, vs2, d2, ds2, p2, q2, rfl, rfl, rfl, h2, r2⟩ := trodAll_cons r1
  obtain ⟨rfl, rfl, rfl⟩ := trodAll_nil r2
  obtain rfl : args = #[v0, v1, v2] := by cases args; simp_all
  obtain ⟨rfl, rfl⟩ := trodVars_none hV
  obtain ⟨a0, rfl, rfl, rfl, w0⟩ := open_int Try.underlying3 (hval 0 3 v0 rfl rfl) h0
  have lt1 : ∀ x ∈ p1, x.block < W.heap.size := by obtain ⟨m, hm⟩ := h1; exact DataW.trod_lt m _ _ _ hm
  have k1 := h1
  have one1 : v1.cells.toList = [v1] := by obtain ⟨a_, len_, cap_, rfl⟩ := okWide_slice Try.underlying47 (hval 1 47 v1 rfl rfl); rfl
  obtain ⟨A1, c1, l1, rfl, hc1, hr1, hq1⟩ := arg_slice opens47 one1 h1
  obtain ⟨a2, rfl, rfl, rfl, w2⟩ := open_int Try.underlying3 (hval 2 3 v2 rfl rfl) h2
  clear hA0 hval0 hsz0
  have hkk := Pure.NetPlays (a0) (l1) (a2) w0 hq1 w2
  refine (mosaiclaw21_NetPlays.calls a0 A1 c1 l1 a2 true W hr1 hc1 hkk).mono ?_
  rintro e W' ⟨rfl, hd_⟩
  have bel : Below W.heap.size W W' := hd_
  exact ⟨_, rfl, _, _, _, [], _, [], hW', trodAll_mk1 (shut_bool Try.underlying4 _), (trodAll_cons_mk (shut_int Try.underlying3 w0) (trodAll_cons_mk (Below.trod laidOut (by kernel_rfl) (of_decide_eq_true (by kernel_rfl)) k1 bel lt1) (trodAll_cons_mk (shut_int Try.underlying3 w2) trodAll_mk0))), rfl, bel.frame _, fun h => by cases h⟩
theorem facts : joinedFacts Try.pinned.checked.prog 6 Try.f6 Rows.netPlaysSpec Rows.netPlaysRow = true := by
  unfold joinedFacts
  simp only [Bool.and_eq_true]
  repeat' apply And.intro
  any_goals (with_reducible exact Fct.mayEnter)
  any_goals ((with_reducible refine Fct.lifts _ ?_); rfl)
  any_goals ((with_reducible refine Fct.make_ _ ?_); rfl)
  all_goals (as_aux_lemma => kernel_rfl)
theorem over : Rows.netPlaysRow.holds Try.pinned (OpenSpec.ofChange Rows.netPlaysSpec) :=
  OpenClaim.holds_of_wide 6 Try.f6 rfl rfl rfl rfl rfl rfl rfl ⟨rfl, rfl, rfl, rfl, rfl⟩ rfl rfl rfl rfl rfl (by as_aux_lemma => kernel_rfl) Try.func6 facts
    (of_decide_eq_true (by as_aux_lemma => kernel_rfl)) (by unfold Func.isWrapper; first | (rw [if_pos (by decide +kernel)]; as_aux_lemma => kernel_rfl) | (rw [if_neg (by decide +kernel)]; exact ⟨rfl, rfl⟩))
    (fun os started H enc _ => lifted os started H enc)
theorem proved : Rows.NetPlaysSaid := over
#print axioms proved
end Go.Proofs.Ytcddajdjmlmpdaa.netPlays
namespace Go.Proofs.Ytcddajdjmlmpdaa
/-- The row, under a short name, for the claim. -/
theorem netPlays_holds : Rows.NetPlaysSaid := netPlays.proved
end Go.Proofs.Ytcddajdjmlmpdaa
