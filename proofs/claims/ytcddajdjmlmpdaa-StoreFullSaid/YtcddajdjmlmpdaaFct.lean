-- By the kit's print, called by a program of this session with functions that are proved by hand.
import Derived.Test.YtcddajdjmlmpdaaRows
import Derived.Test.YtcddajdjmlmpdaaChecked
import Derived.JoinedOf
import Derived.KernelRfl
namespace Go.Proofs.Ytcddajdjmlmpdaa.Fct
theorem mayEnter : Try.pinned.checked.prog.mayEnter = true := by kernel_rfl
theorem liftsFinal : Try.pinned.checked.prog.liftsFinal = false := by kernel_rfl
theorem makes : Try.pinned.checked.prog.make = some .cut := by kernel_rfl
theorem lifts (b : Bool) (h : b = false) : (b == Try.pinned.checked.prog.liftsFinal) = true := by rw [h, liftsFinal]; rfl
theorem make_ (m : Make) (h : m = .cut) : (Try.pinned.checked.prog.make == some m) = true := by rw [h, makes]; rfl
end Go.Proofs.Ytcddajdjmlmpdaa.Fct
