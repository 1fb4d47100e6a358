-- By the kit's print, called by a program of this session with functions that are proved by hand.
import Derived.Test.YtpejjpecdkbleaaPrK
import Derived.Test.YtpejjpecdkbleaaOpen
namespace Go.Proofs.Ytpejjpecdkbleaa.Print
open Go.RowKit Go.Proofs.YtpejjpecdkbleaaW.PrintWords Go.Proofs.Ytpejjpecdkbleaa.Open
set_option linter.unusedVariables false
set_option maxRecDepth 100000 in
theorem opens3 : Opens Try.prog 3 (Kd.int .i64) (fun x => (Lit.int .i64 x).wf = true) := opens_int Try.underlying3 (by kernel_rfl)
set_option maxRecDepth 100000 in
theorem opens22 : Opens Try.prog 22 (Kd.slice 3 (Kd.int .i64)) (fun x => (x : List Int).length ≤ maxLen ∧ ∀ x1_ ∈ (x : List Int), (Lit.int .i64 x1_).wf = true) := opens_slice Try.underlying22 (by kernel_rfl) opens3
set_option maxRecDepth 100000 in
theorem opens4 : Opens Try.prog 4 Kd.bool (fun x => True) := opens_bool Try.underlying4 (by kernel_rfl)
set_option maxRecDepth 100000 in
theorem opens23 : Opens Try.prog 23 (Kd.slice 4 Kd.bool) (fun x => (x : List Bool).length ≤ maxLen ∧ ∀ x1_ ∈ (x : List Bool), True) := opens_slice Try.underlying23 (by kernel_rfl) opens4
end Go.Proofs.Ytpejjpecdkbleaa.Print
