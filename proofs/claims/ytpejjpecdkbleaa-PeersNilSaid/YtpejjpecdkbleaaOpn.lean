-- By the kit's print, called by a program of this session with functions that are proved by hand.
import Derived.Test.YtpejjpecdkbleaaPrK
import Derived.Test.YtpejjpecdkbleaaOpen
namespace Go.Proofs.Ytpejjpecdkbleaa.Print
open Go.RowKit Go.Proofs.YtpejjpecdkbleaaW.PrintWords Go.Proofs.Ytpejjpecdkbleaa.Open
set_option linter.unusedVariables false
set_option maxRecDepth 100000 in
theorem opens3 : Opens Try.prog 3 (Kd.int .i64) (fun x => (Lit.int .i64 x).wf = true) := opens_int Try.underlying3 (by kernel_rfl)
set_option maxRecDepth 100000 in
theorem opens22 : Opens Try.prog 22 (Kd.slice 3 (Kd.int .i64)) (fun x => (x : List Int).length ≤ maxLen ∧ ∀ x1_ ∈ (x : List Int), (Lit.int .i64 x1_).wf = true) := opens_slice Try.underlying22 (by kernel_rfl) opens3
set_option maxRecDepth 100000 in
theorem opens4 : Opens Try.prog 4 Kd.bool (fun x => True) := opens_bool Try.underlying4 (by kernel_rfl)
set_option maxRecDepth 100000 in
theorem opens23 : Opens Try.prog 23 (Kd.slice 4 Kd.bool) (fun x => (x : List Bool).length ≤ maxLen ∧ ∀ x1_ ∈ (x : List Bool), True) := opens_slice Try.underlying23 (by kernel_rfl) opens4
set_option maxRecDepth 100000 in
theorem opens30 : Opens Try.prog 30 k30 (fun x => ((Lit.int .i64 (x).f0).wf = true) ∧ ((Lit.int .i64 (x).f1).wf = true)) := by
  refine opens_struct (d := (Kd.pair (Kd.int .i64) (Kd.int .i64))) (q := fun y : (Int) × (Int) => ((Lit.int .i64 (y.1)).wf = true) ∧ ((Lit.int .i64 (y.2)).wf = true)) (fun x : S30 => (x.f0, x.f1)) (fun p => ⟨p.1, p.2⟩) (fun _ => rfl) Try.underlying30 (by kernel_rfl) ?_
  change OpensF Try.prog [_, _] 0 _ _
  apply fields_cons (q1 := fun a : Int => (Lit.int .i64 a).wf = true) (q2 := fun y : (Int) => ((Lit.int .i64 (y)).wf = true))
  · exact opens3
  · rfl
  apply fields_one (q := fun a : Int => (Lit.int .i64 a).wf = true)
  exact opens3
set_option maxRecDepth 100000 in
theorem opens9 : Opens Try.prog 9 Kd.string (fun x => (x : ByteArray).size ≤ maxLen) := opens_string Try.underlying9 (by kernel_rfl)
set_option maxRecDepth 100000 in
theorem opens42 : Opens Try.prog 42 k42 (fun x => ((Lit.int .i64 (x).f0).wf = true) ∧ ((Lit.int .i64 (x).f1).wf = true) ∧ ((Lit.int .i64 (x).f2).wf = true) ∧ (((Lit.int .i64 ((x).f3).f0).wf = true) ∧ ((Lit.int .i64 ((x).f3).f1).wf = true)) ∧ (((x).f4 : ByteArray).size ≤ maxLen) ∧ (True)) := by
  refine opens_struct (d := (Kd.pair (Kd.int .i64) (Kd.pair (Kd.int .i64) (Kd.pair (Kd.int .i64) (Kd.pair k30 (Kd.pair Kd.string Kd.bool)))))) (q := fun y : (Int) × (Int) × (Int) × (S30) × (ByteArray) × (Bool) => ((Lit.int .i64 (y.1)).wf = true) ∧ ((Lit.int .i64 (y.2.1)).wf = true) ∧ ((Lit.int .i64 (y.2.2.1)).wf = true) ∧ (((Lit.int .i64 ((y.2.2.2.1)).f0).wf = true) ∧ ((Lit.int .i64 ((y.2.2.2.1)).f1).wf = true)) ∧ (((y.2.2.2.2.1) : ByteArray).size ≤ maxLen) ∧ (True)) (fun x : S42 => (x.f0, x.f1, x.f2, x.f3, x.f4, x.f5)) (fun p => ⟨p.1, p.2.1, p.2.2.1, p.2.2.2.1, p.2.2.2.2.1, p.2.2.2.2.2⟩) (fun _ => rfl) Try.underlying42 (by kernel_rfl) ?_
  change OpensF Try.prog [_, _, _, _, _, _] 0 _ _
  apply fields_cons (q1 := fun a : Int => (Lit.int .i64 a).wf = true) (q2 := fun y : (Int) × (Int) × (S30) × (ByteArray) × (Bool) => ((Lit.int .i64 (y.1)).wf = true) ∧ ((Lit.int .i64 (y.2.1)).wf = true) ∧ (((Lit.int .i64 ((y.2.2.1)).f0).wf = true) ∧ ((Lit.int .i64 ((y.2.2.1)).f1).wf = true)) ∧ (((y.2.2.2.1) : ByteArray).size ≤ maxLen) ∧ (True))
  · exact opens3
  · rfl
  apply fields_cons (q1 := fun a : Int => (Lit.int .i64 a).wf = true) (q2 := fun y : (Int) × (S30) × (ByteArray) × (Bool) => ((Lit.int .i64 (y.1)).wf = true) ∧ (((Lit.int .i64 ((y.2.1)).f0).wf = true) ∧ ((Lit.int .i64 ((y.2.1)).f1).wf = true)) ∧ (((y.2.2.1) : ByteArray).size ≤ maxLen) ∧ (True))
  · exact opens3
  · rfl
  apply fields_cons (q1 := fun a : Int => (Lit.int .i64 a).wf = true) (q2 := fun y : (S30) × (ByteArray) × (Bool) => (((Lit.int .i64 ((y.1)).f0).wf = true) ∧ ((Lit.int .i64 ((y.1)).f1).wf = true)) ∧ (((y.2.1) : ByteArray).size ≤ maxLen) ∧ (True))
  · exact opens3
  · rfl
  apply fields_cons (q1 := fun a : S30 => ((Lit.int .i64 (a).f0).wf = true) ∧ ((Lit.int .i64 (a).f1).wf = true)) (q2 := fun y : (ByteArray) × (Bool) => (((y.1) : ByteArray).size ≤ maxLen) ∧ (True))
  · exact opens30
  · rfl
  apply fields_cons (q1 := fun a : ByteArray => (a : ByteArray).size ≤ maxLen) (q2 := fun y : (Bool) => (True))
  · exact opens9
  · rfl
  apply fields_one (q := fun a : Bool => True)
  exact opens4
end Go.Proofs.Ytpejjpecdkbleaa.Print
