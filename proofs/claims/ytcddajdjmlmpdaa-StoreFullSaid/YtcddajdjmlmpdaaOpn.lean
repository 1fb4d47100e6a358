-- By the kit's print, called by a program of this session with functions that are proved by hand.
import Derived.Test.YtcddajdjmlmpdaaPrK
import Derived.Test.YtcddajdjmlmpdaaOpen
namespace Go.Proofs.Ytcddajdjmlmpdaa.Print
open Go.RowKit Go.Proofs.YtcddajdjmlmpdaaW.PrintWords Go.Proofs.Ytcddajdjmlmpdaa.Open
set_option linter.unusedVariables false
set_option maxRecDepth 100000 in
theorem opens3 : Opens Try.prog 3 (Kd.int .i64) (fun x => (Lit.int .i64 x).wf = true) := opens_int Try.underlying3 (by kernel_rfl)
set_option maxRecDepth 100000 in
theorem opens9 : Opens Try.prog 9 Kd.string (fun x => (x : ByteArray).size ≤ maxLen) := opens_string Try.underlying9 (by kernel_rfl)
set_option maxRecDepth 100000 in
theorem opens41 : Opens Try.prog 41 k41 (fun x => ((Lit.int .i64 (x).f0).wf = true) ∧ ((Lit.int .i64 (x).f1).wf = true) ∧ (((x).f2 : ByteArray).size ≤ maxLen)) := by
  refine opens_struct (d := (Kd.pair (Kd.int .i64) (Kd.pair (Kd.int .i64) Kd.string))) (q := fun y : (Int) × (Int) × (ByteArray) => ((Lit.int .i64 (y.1)).wf = true) ∧ ((Lit.int .i64 (y.2.1)).wf = true) ∧ (((y.2.2) : ByteArray).size ≤ maxLen)) (fun x : S41 => (x.f0, x.f1, x.f2)) (fun p => ⟨p.1, p.2.1, p.2.2⟩) (fun _ => rfl) Try.underlying41 (by kernel_rfl) ?_
  change OpensF Try.prog [_, _, _] 0 _ _
  apply fields_cons (q1 := fun a : Int => (Lit.int .i64 a).wf = true) (q2 := fun y : (Int) × (ByteArray) => ((Lit.int .i64 (y.1)).wf = true) ∧ (((y.2) : ByteArray).size ≤ maxLen))
  · exact opens3
  · rfl
  apply fields_cons (q1 := fun a : Int => (Lit.int .i64 a).wf = true) (q2 := fun y : (ByteArray) => (((y) : ByteArray).size ≤ maxLen))
  · exact opens3
  · rfl
  apply fields_one (q := fun a : ByteArray => (a : ByteArray).size ≤ maxLen)
  exact opens9
set_option maxRecDepth 100000 in
theorem opens50 : Opens Try.prog 50 k50 (fun x => ((Lit.int .i64 (x).f0).wf = true) ∧ ((Lit.int .i64 (x).f1).wf = true) ∧ (((Lit.int .i64 ((x).f2).f0).wf = true) ∧ ((Lit.int .i64 ((x).f2).f1).wf = true) ∧ ((((x).f2).f2 : ByteArray).size ≤ maxLen))) := by
  refine opens_struct (d := (Kd.pair (Kd.int .i64) (Kd.pair (Kd.int .i64) k41))) (q := fun y : (Int) × (Int) × (S41) => ((Lit.int .i64 (y.1)).wf = true) ∧ ((Lit.int .i64 (y.2.1)).wf = true) ∧ (((Lit.int .i64 ((y.2.2)).f0).wf = true) ∧ ((Lit.int .i64 ((y.2.2)).f1).wf = true) ∧ ((((y.2.2)).f2 : ByteArray).size ≤ maxLen))) (fun x : S50 => (x.f0, x.f1, x.f2)) (fun p => ⟨p.1, p.2.1, p.2.2⟩) (fun _ => rfl) Try.underlying50 (by kernel_rfl) ?_
  change OpensF Try.prog [_, _, _] 0 _ _
  apply fields_cons (q1 := fun a : Int => (Lit.int .i64 a).wf = true) (q2 := fun y : (Int) × (S41) => ((Lit.int .i64 (y.1)).wf = true) ∧ (((Lit.int .i64 ((y.2)).f0).wf = true) ∧ ((Lit.int .i64 ((y.2)).f1).wf = true) ∧ ((((y.2)).f2 : ByteArray).size ≤ maxLen)))
  · exact opens3
  · rfl
  apply fields_cons (q1 := fun a : Int => (Lit.int .i64 a).wf = true) (q2 := fun y : (S41) => (((Lit.int .i64 ((y)).f0).wf = true) ∧ ((Lit.int .i64 ((y)).f1).wf = true) ∧ ((((y)).f2 : ByteArray).size ≤ maxLen)))
  · exact opens3
  · rfl
  apply fields_one (q := fun a : S41 => ((Lit.int .i64 (a).f0).wf = true) ∧ ((Lit.int .i64 (a).f1).wf = true) ∧ (((a).f2 : ByteArray).size ≤ maxLen))
  exact opens41
set_option maxRecDepth 100000 in
theorem opens47 : Opens Try.prog 47 (Kd.slice 50 k50) (fun x => (x : List (S50)).length ≤ maxLen ∧ ∀ x1_ ∈ (x : List (S50)), ((Lit.int .i64 (x1_).f0).wf = true) ∧ ((Lit.int .i64 (x1_).f1).wf = true) ∧ (((Lit.int .i64 ((x1_).f2).f0).wf = true) ∧ ((Lit.int .i64 ((x1_).f2).f1).wf = true) ∧ ((((x1_).f2).f2 : ByteArray).size ≤ maxLen))) := opens_slice Try.underlying47 (by kernel_rfl) opens50
set_option maxRecDepth 100000 in
theorem opens29 : Opens Try.prog 29 k29 (fun x => ((Lit.int .i64 (x).f0).wf = true) ∧ ((Lit.int .i64 (x).f1).wf = true) ∧ (((x).f2 : ByteArray).size ≤ maxLen)) := by
  refine opens_struct (d := (Kd.pair (Kd.int .i64) (Kd.pair (Kd.int .i64) Kd.string))) (q := fun y : (Int) × (Int) × (ByteArray) => ((Lit.int .i64 (y.1)).wf = true) ∧ ((Lit.int .i64 (y.2.1)).wf = true) ∧ (((y.2.2) : ByteArray).size ≤ maxLen)) (fun x : S29 => (x.f0, x.f1, x.f2)) (fun p => ⟨p.1, p.2.1, p.2.2⟩) (fun _ => rfl) Try.underlying29 (by kernel_rfl) ?_
  change OpensF Try.prog [_, _, _] 0 _ _
  apply fields_cons (q1 := fun a : Int => (Lit.int .i64 a).wf = true) (q2 := fun y : (Int) × (ByteArray) => ((Lit.int .i64 (y.1)).wf = true) ∧ (((y.2) : ByteArray).size ≤ maxLen))
  · exact opens3
  · rfl
  apply fields_cons (q1 := fun a : Int => (Lit.int .i64 a).wf = true) (q2 := fun y : (ByteArray) => (((y) : ByteArray).size ≤ maxLen))
  · exact opens3
  · rfl
  apply fields_one (q := fun a : ByteArray => (a : ByteArray).size ≤ maxLen)
  exact opens9
set_option maxRecDepth 100000 in
theorem opens30 : Opens Try.prog 30 (Kd.slice 3 (Kd.int .i64)) (fun x => (x : List Int).length ≤ maxLen ∧ ∀ x1_ ∈ (x : List Int), (Lit.int .i64 x1_).wf = true) := opens_slice Try.underlying30 (by kernel_rfl) opens3
set_option maxRecDepth 100000 in
theorem opens32 : Opens Try.prog 32 k32 (fun x => ((Lit.int .i64 (x).f0).wf = true) ∧ ((Lit.int .i64 (x).f1).wf = true) ∧ (((Lit.int .i64 ((x).f2).f0).wf = true) ∧ ((Lit.int .i64 ((x).f2).f1).wf = true) ∧ ((((x).f2).f2 : ByteArray).size ≤ maxLen)) ∧ (((x).f3 : List Int).length ≤ maxLen ∧ ∀ x1_ ∈ ((x).f3 : List Int), (Lit.int .i64 x1_).wf = true) ∧ (((x).f4 : ByteArray).size ≤ maxLen)) := by
  refine opens_struct (d := (Kd.pair (Kd.int .i64) (Kd.pair (Kd.int .i64) (Kd.pair k29 (Kd.pair (Kd.slice 3 (Kd.int .i64)) Kd.string))))) (q := fun y : (Int) × (Int) × (S29) × (List Int) × (ByteArray) => ((Lit.int .i64 (y.1)).wf = true) ∧ ((Lit.int .i64 (y.2.1)).wf = true) ∧ (((Lit.int .i64 ((y.2.2.1)).f0).wf = true) ∧ ((Lit.int .i64 ((y.2.2.1)).f1).wf = true) ∧ ((((y.2.2.1)).f2 : ByteArray).size ≤ maxLen)) ∧ (((y.2.2.2.1) : List Int).length ≤ maxLen ∧ ∀ x6_ ∈ ((y.2.2.2.1) : List Int), (Lit.int .i64 x6_).wf = true) ∧ (((y.2.2.2.2) : ByteArray).size ≤ maxLen)) (fun x : S32 => (x.f0, x.f1, x.f2, x.f3, x.f4)) (fun p => ⟨p.1, p.2.1, p.2.2.1, p.2.2.2.1, p.2.2.2.2⟩) (fun _ => rfl) Try.underlying32 (by kernel_rfl) ?_
  change OpensF Try.prog [_, _, _, _, _] 0 _ _
  apply fields_cons (q1 := fun a : Int => (Lit.int .i64 a).wf = true) (q2 := fun y : (Int) × (S29) × (List Int) × (ByteArray) => ((Lit.int .i64 (y.1)).wf = true) ∧ (((Lit.int .i64 ((y.2.1)).f0).wf = true) ∧ ((Lit.int .i64 ((y.2.1)).f1).wf = true) ∧ ((((y.2.1)).f2 : ByteArray).size ≤ maxLen)) ∧ (((y.2.2.1) : List Int).length ≤ maxLen ∧ ∀ x2_ ∈ ((y.2.2.1) : List Int), (Lit.int .i64 x2_).wf = true) ∧ (((y.2.2.2) : ByteArray).size ≤ maxLen))
  · exact opens3
  · rfl
  apply fields_cons (q1 := fun a : Int => (Lit.int .i64 a).wf = true) (q2 := fun y : (S29) × (List Int) × (ByteArray) => (((Lit.int .i64 ((y.1)).f0).wf = true) ∧ ((Lit.int .i64 ((y.1)).f1).wf = true) ∧ ((((y.1)).f2 : ByteArray).size ≤ maxLen)) ∧ (((y.2.1) : List Int).length ≤ maxLen ∧ ∀ x3_ ∈ ((y.2.1) : List Int), (Lit.int .i64 x3_).wf = true) ∧ (((y.2.2) : ByteArray).size ≤ maxLen))
  · exact opens3
  · rfl
  apply fields_cons (q1 := fun a : S29 => ((Lit.int .i64 (a).f0).wf = true) ∧ ((Lit.int .i64 (a).f1).wf = true) ∧ (((a).f2 : ByteArray).size ≤ maxLen)) (q2 := fun y : (List Int) × (ByteArray) => (((y.1) : List Int).length ≤ maxLen ∧ ∀ x4_ ∈ ((y.1) : List Int), (Lit.int .i64 x4_).wf = true) ∧ (((y.2) : ByteArray).size ≤ maxLen))
  · exact opens29
  · rfl
  apply fields_cons (q1 := fun a : List Int => (a : List Int).length ≤ maxLen ∧ ∀ x5_ ∈ (a : List Int), (Lit.int .i64 x5_).wf = true) (q2 := fun y : (ByteArray) => (((y) : ByteArray).size ≤ maxLen))
  · exact opens30
  · rfl
  apply fields_one (q := fun a : ByteArray => (a : ByteArray).size ≤ maxLen)
  exact opens9
end Go.Proofs.Ytcddajdjmlmpdaa.Print
