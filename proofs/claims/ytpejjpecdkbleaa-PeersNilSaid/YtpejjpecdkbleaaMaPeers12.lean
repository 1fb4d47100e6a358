/- The page's example of peers. -/
import Derived.Test.YtpejjpecdkbleaaPrK
import Derived.Test.YtpejjpecdkbleaaMaPeers11
import Derived.Test.YtpejjpecdkbleaaMaPeers4
import Derived.Test.YtpejjpecdkbleaaMaPeers7
import Derived.Test.YtpejjpecdkbleaaMaPeers11
import Derived.IntWalk
import Derived.BigQuiet
import Derived.Deep.QuietTactic
import Derived.Deep.RegionLaw
import Derived.RegionTactic
import Derived.Outline
namespace Go.Proofs.Ytpejjpecdkbleaa.Print
open Go.RowKit Go.Proofs.YtpejjpecdkbleaaW.PrintWords Go.Proofs.YtpejjpecdkbleaaW.PrintLast Go.Proofs.YtpejjpecdkbleaaW.PrintMore
set_option linter.unusedVariables false
set_option linter.unusedSimpArgs false

def aw0 : PM := List.replicate 16 none
def aw1 : PM := aw0.set 3 (some (met 3 0 0 0))
def aw2 : PM := aw1.set 3 none
def awB : List Bool := noB.set 3 true
def aw3 : PM := aw2.set 4 (some (met 4 0 0 0))
set_option maxHeartbeats 1600000 in
set_option maxRecDepth 100000 in
theorem awake18 (W : World) : Calls Try.prog 13 #[] W fun e W2 => e = .returned (.bool true) ∧ Below W.heap.size W W2 := by
  have a1 : meetC 1 aw0 noB 3 0 0 0 = 0 ∧ meetM 1 aw0 noB 3 0 0 0 = aw1 := ⟨rfl, rfl⟩
  have a2 : meetC 1 aw1 noB 4 0 0 0 = 6 ∧ meetM 1 aw1 noB 4 0 0 0 = aw1 := ⟨rfl, rfl⟩
  have a3 : meetC 1 aw2 awB 4 0 0 0 = 0 ∧ meetM 1 aw2 awB 4 0 0 0 = aw3 := ⟨rfl, rfl⟩
  have a4 : meetC 1 aw3 awB 3 0 0 0 = 10 ∧ meetM 1 aw3 awB 3 0 0 0 = aw3 := ⟨rfl, rfl⟩
  have a5 : (aw3.filterMap id).length = 1 := rfl
  have A1 := Aside0.mk a1
  have A2 := Aside0.mk a2
  have A3 := Aside0.mk a3
  have A4 := Aside0.mk a4
  have A5 := Aside0.mk a5
  clear a1 a2 a3 a4 a5
  go_enter Try.func13, Try.ntmps13
  go_wp2_with fail
  refine (PT_new 1 9 W (by decide)).mono ?_
  rintro e W1 ⟨g, rfl, t⟩
  have T1 := Aside0.mk (show PT W W1 g 1 9 aw0 noB from t)
  clear t
  go_wp2_with fail
  refine (T1.out.Meet_any 3 0 0 0).mono ?_
  rintro e W2 ⟨he, d⟩
  rw [A1.out.1] at he
  rw [A1.out.2] at d
  subst he
  have T2 := Aside0.mk d.pt
  clear d T1
  go_wp2_with fail
  refine (T2.out.Meet_any 4 0 0 0).mono ?_
  rintro e W3 ⟨he, d⟩
  rw [A2.out.1] at he
  rw [A2.out.2] at d
  subst he
  have T3 := Aside0.mk d.pt
  clear d T2
  go_wp2_with fail
  refine (T3.out.Ban_any 3).mono ?_
  rintro e W4 ⟨he, d⟩
  have T4 := Aside0.mk (show PT W W4 g 1 9 aw2 awB from d.pt)
  have he2 : e = .returned (.int .i64 0) := he
  clear d T3 he
  subst he2
  go_wp2_with fail
  refine (T4.out.Meet_any 4 0 0 0).mono ?_
  rintro e W5 ⟨he, d⟩
  rw [A3.out.1] at he
  rw [A3.out.2] at d
  subst he
  have T5 := Aside0.mk d.pt
  clear d T4
  go_wp2_with fail
  refine (T5.out.Meet_any 3 0 0 0).mono ?_
  rintro e W6 ⟨he, d⟩
  rw [A4.out.1] at he
  rw [A4.out.2] at d
  subst he
  have T6 := Aside0.mk d.pt
  clear d T5
  go_wp2_with fail
  refine (T6.out.Len_any).mono ?_
  rintro e W7 ⟨he, d⟩
  rw [A5.out] at he
  subst he
  have T7 := Aside0.mk (T6.out.below d)
  clear d T6
  go_wp2_with fail
  go_ret
  exact ⟨rfl, T7.out.bel⟩
end Go.Proofs.Ytpejjpecdkbleaa.Print
