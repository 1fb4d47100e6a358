-- By the kit's print, called by a program of this session with functions that are proved by hand.
import Derived.Test.YtelcaepenfjloaaPrK
import Derived.Test.YtelcaepenfjloaaOpen
namespace Go.Proofs.Ytelcaepenfjloaa.Print
open Go.RowKit Go.Proofs.YtelcaepenfjloaaW.PrintWords Go.Proofs.Ytelcaepenfjloaa.Open
set_option linter.unusedVariables false
set_option maxRecDepth 100000 in
theorem opens27 : Opens Try.prog 27 (Kd.int .u32) (fun x => (Lit.int .u32 x).wf = true) := opens_int Try.underlying27 (by kernel_rfl)
set_option maxRecDepth 100000 in
theorem opens28 : Opens Try.prog 28 (Kd.arr 8 (Kd.int .u32) (by decide)) (fun x => (x : List Int).length = 8 ∧ ∀ x1_ ∈ (x : List Int), (Lit.int .u32 x1_).wf = true) := opens_array (by decide) Try.underlying28 (by kernel_rfl) opens27
set_option maxRecDepth 100000 in
theorem opens9 : Opens Try.prog 9 Kd.string (fun x => (x : ByteArray).size ≤ maxLen) := opens_string Try.underlying9 (by kernel_rfl)
set_option maxRecDepth 100000 in
theorem opens39 : Opens Try.prog 39 (Kd.slice 9 Kd.string) (fun x => (x : List ByteArray).length ≤ maxLen ∧ ∀ x1_ ∈ (x : List ByteArray), (x1_ : ByteArray).size ≤ maxLen) := opens_slice Try.underlying39 (by kernel_rfl) opens9
set_option maxRecDepth 100000 in
theorem opens33 : Opens Try.prog 33 (Kd.slice 27 (Kd.int .u32)) (fun x => (x : List Int).length ≤ maxLen ∧ ∀ x1_ ∈ (x : List Int), (Lit.int .u32 x1_).wf = true) := opens_slice Try.underlying33 (by kernel_rfl) opens27
set_option maxRecDepth 100000 in
theorem opens3 : Opens Try.prog 3 (Kd.int .i64) (fun x => (Lit.int .i64 x).wf = true) := opens_int Try.underlying3 (by kernel_rfl)
set_option maxRecDepth 100000 in
theorem opens90 : Opens Try.prog 90 k90 (fun x => ((Lit.int .i64 (x).f0).wf = true) ∧ ((Lit.int .i64 (x).f1).wf = true) ∧ ((Lit.int .i64 (x).f2).wf = true)) := by
  refine opens_struct (d := (Kd.pair (Kd.int .i64) (Kd.pair (Kd.int .i64) (Kd.int .i64)))) (q := fun y : (Int) × (Int) × (Int) => ((Lit.int .i64 (y.1)).wf = true) ∧ ((Lit.int .i64 (y.2.1)).wf = true) ∧ ((Lit.int .i64 (y.2.2)).wf = true)) (fun x : S90 => (x.f0, x.f1, x.f2)) (fun p => ⟨p.1, p.2.1, p.2.2⟩) (fun _ => rfl) Try.underlying90 (by kernel_rfl) ?_
  change OpensF Try.prog [_, _, _] 0 _ _
  apply fields_cons (q1 := fun a : Int => (Lit.int .i64 a).wf = true) (q2 := fun y : (Int) × (Int) => ((Lit.int .i64 (y.1)).wf = true) ∧ ((Lit.int .i64 (y.2)).wf = true))
  · exact opens3
  · rfl
  apply fields_cons (q1 := fun a : Int => (Lit.int .i64 a).wf = true) (q2 := fun y : (Int) => ((Lit.int .i64 (y)).wf = true))
  · exact opens3
  · rfl
  apply fields_one (q := fun a : Int => (Lit.int .i64 a).wf = true)
  exact opens3
set_option maxRecDepth 100000 in
theorem opens88 : Opens Try.prog 88 (Kd.slice 90 k90) (fun x => (x : List (S90)).length ≤ maxLen ∧ ∀ x1_ ∈ (x : List (S90)), ((Lit.int .i64 (x1_).f0).wf = true) ∧ ((Lit.int .i64 (x1_).f1).wf = true) ∧ ((Lit.int .i64 (x1_).f2).wf = true)) := opens_slice Try.underlying88 (by kernel_rfl) opens90
set_option maxRecDepth 100000 in
theorem opens77 : Opens Try.prog 77 (Kd.slice 3 (Kd.int .i64)) (fun x => (x : List Int).length ≤ maxLen ∧ ∀ x1_ ∈ (x : List Int), (Lit.int .i64 x1_).wf = true) := opens_slice Try.underlying77 (by kernel_rfl) opens3
set_option maxRecDepth 100000 in
theorem opens101 : Opens Try.prog 101 k101 (fun x => ((Lit.int .i64 (x).f0).wf = true) ∧ ((Lit.int .i64 (x).f1).wf = true) ∧ (((x).f2 : ByteArray).size ≤ maxLen) ∧ (((x).f3 : List ByteArray).length ≤ maxLen ∧ ∀ x1_ ∈ ((x).f3 : List ByteArray), (x1_ : ByteArray).size ≤ maxLen)) := by
  refine opens_struct (d := (Kd.pair (Kd.int .i64) (Kd.pair (Kd.int .i64) (Kd.pair Kd.string (Kd.slice 9 Kd.string))))) (q := fun y : (Int) × (Int) × (ByteArray) × (List ByteArray) => ((Lit.int .i64 (y.1)).wf = true) ∧ ((Lit.int .i64 (y.2.1)).wf = true) ∧ (((y.2.2.1) : ByteArray).size ≤ maxLen) ∧ (((y.2.2.2) : List ByteArray).length ≤ maxLen ∧ ∀ x5_ ∈ ((y.2.2.2) : List ByteArray), (x5_ : ByteArray).size ≤ maxLen)) (fun x : S101 => (x.f0, x.f1, x.f2, x.f3)) (fun p => ⟨p.1, p.2.1, p.2.2.1, p.2.2.2⟩) (fun _ => rfl) Try.underlying101 (by kernel_rfl) ?_
  change OpensF Try.prog [_, _, _, _] 0 _ _
  apply fields_cons (q1 := fun a : Int => (Lit.int .i64 a).wf = true) (q2 := fun y : (Int) × (ByteArray) × (List ByteArray) => ((Lit.int .i64 (y.1)).wf = true) ∧ (((y.2.1) : ByteArray).size ≤ maxLen) ∧ (((y.2.2) : List ByteArray).length ≤ maxLen ∧ ∀ x1_ ∈ ((y.2.2) : List ByteArray), (x1_ : ByteArray).size ≤ maxLen))
  · exact opens3
  · rfl
  apply fields_cons (q1 := fun a : Int => (Lit.int .i64 a).wf = true) (q2 := fun y : (ByteArray) × (List ByteArray) => (((y.1) : ByteArray).size ≤ maxLen) ∧ (((y.2) : List ByteArray).length ≤ maxLen ∧ ∀ x2_ ∈ ((y.2) : List ByteArray), (x2_ : ByteArray).size ≤ maxLen))
  · exact opens3
  · rfl
  apply fields_cons (q1 := fun a : ByteArray => (a : ByteArray).size ≤ maxLen) (q2 := fun y : (List ByteArray) => (((y) : List ByteArray).length ≤ maxLen ∧ ∀ x3_ ∈ ((y) : List ByteArray), (x3_ : ByteArray).size ≤ maxLen))
  · exact opens9
  · rfl
  apply fields_one (q := fun a : List ByteArray => (a : List ByteArray).length ≤ maxLen ∧ ∀ x4_ ∈ (a : List ByteArray), (x4_ : ByteArray).size ≤ maxLen)
  exact opens39
set_option maxRecDepth 100000 in
theorem opens109 : Opens Try.prog 109 k109 (fun x => (((x).f0 : ByteArray).size ≤ maxLen) ∧ (((x).f1 : List ByteArray).length ≤ maxLen ∧ ∀ x1_ ∈ ((x).f1 : List ByteArray), (x1_ : ByteArray).size ≤ maxLen)) := by
  refine opens_struct (d := (Kd.pair Kd.string (Kd.slice 9 Kd.string))) (q := fun y : (ByteArray) × (List ByteArray) => (((y.1) : ByteArray).size ≤ maxLen) ∧ (((y.2) : List ByteArray).length ≤ maxLen ∧ ∀ x3_ ∈ ((y.2) : List ByteArray), (x3_ : ByteArray).size ≤ maxLen)) (fun x : S109 => (x.f0, x.f1)) (fun p => ⟨p.1, p.2⟩) (fun _ => rfl) Try.underlying109 (by kernel_rfl) ?_
  change OpensF Try.prog [_, _] 0 _ _
  apply fields_cons (q1 := fun a : ByteArray => (a : ByteArray).size ≤ maxLen) (q2 := fun y : (List ByteArray) => (((y) : List ByteArray).length ≤ maxLen ∧ ∀ x1_ ∈ ((y) : List ByteArray), (x1_ : ByteArray).size ≤ maxLen))
  · exact opens9
  · rfl
  apply fields_one (q := fun a : List ByteArray => (a : List ByteArray).length ≤ maxLen ∧ ∀ x2_ ∈ (a : List ByteArray), (x2_ : ByteArray).size ≤ maxLen)
  exact opens39
end Go.Proofs.Ytelcaepenfjloaa.Print
