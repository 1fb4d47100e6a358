/- The given statement PeersHeardSaid is proved: the law mosaiclaw18_PeersHeard returns true for every input, without a panic; out of its pure statement (YtpejjpecdkbleaaPurePeersHeard) and the walks of the functions that it reaches; no condition beyond the statement's own. -/
import Derived.Test.YtpejjpecdkbleaaRows
import Derived.Test.YtpejjpecdkbleaaOpn
import Derived.Test.YtpejjpecdkbleaaFct
import Derived.Test.YtpejjpecdkbleaaMaPeersHeard
import Derived.Test.YtpejjpecdkbleaaStmPeersHeard
import Derived.Test.YtpejjpecdkbleaaPurePeersHeard
import Derived.WalkKit
import Derived.ProofKit
import Derived.OpenShut
import Derived.ShutString
import Derived.ChangeOld
import Derived.Below
import Derived.SizedLaws
import Derived.Carry
namespace Go.Proofs.Ytpejjpecdkbleaa.peersHeard
open Go.ChangeShapes Go.WideShapes Go.ChangeAt Go.RowKit Go.Proofs.Ytpejjpecdkbleaa.Print Go.Proofs.YtpejjpecdkbleaaW.PrintWords Go.Proofs.Ytpejjpecdkbleaa.Open
open Go.ChangeMaps (open_string shut_string)
set_option linter.unusedVariables false
set_option linter.unusedSimpArgs false
theorem own : ownKnob Try.prog.godebug = none := by kernel_rfl
theorem laidOut : laidOutB Try.prog = true := by kernel_rfl
set_option maxRecDepth 100000 in
theorem lifted (os : Os) (started : os.Started) (H : Type) (enc : TypeId × Value → H) :
    ReturnsInHanded {} Try.checked os 4 .any (Rows.peersHeardSpec.pre6 enc Try.prog Try.f4 Rows.peersHeardRow.domain false) (Rows.peersHeardSpec.post enc Try.prog Try.f4 false true false false) := by
  refine returnsInHanded_of_change_sized (C := Try.checked) own started (by kernel_rfl) Try.func4
    (ChangeSpec.witness6 (enc := enc) (C := Try.checked) false ⟨#[], #[.int .i64 0, .slice none 0 0], []⟩ 8 (by kernel_rfl) (by kernel_rfl) (by kernel_rfl) (by kernel_rfl)) ?_
  intro W base args ds gs before hval0 hW hcnd hsz0 _
  have hval : ∀ (j : Nat) t v, Try.f4.params[j]? = some t → args[j]? = some v → Value.okWide Try.prog W .any base t v := hval0
  have hW' := hW
  obtain ⟨p, q, hA0, hV, rfl, hfz, hnd⟩ := hW
  have hA : DataW.TrodAll enc Try.prog W 0 (fun _ => true) true Try.f4.params.toList args.toList ds p := hA0
  rw [Try.params4] at hA hval
  obtain ⟨v0, vs0, d0, ds0, p0, q0, hargs, rfl, rfl, h0, r0⟩ := trodAll_cons hA
  obtain ⟨v1, vs1, d1, ds1, p1, q1, rfl, rfl, rfl, h1, r1⟩ := trodAll_cons r0
  obtain ⟨rfl, rfl, rfl⟩ := trodAll_nil r1
  obtain rfl : args = #[v0, v1] := by cases args; simp_all
  obtain ⟨rfl, rfl⟩ := trodVars_none hV
  obtain ⟨a0, rfl, rfl, rfl, w0⟩ := open_int Try.underlying3 (hval 0 3 v0 rfl rfl) h0
  have lt1 : ∀ x ∈ p1, x.block < W.heap.size := by obtain ⟨m, hm⟩ := h1; exact DataW.trod_lt m _ _ _ hm
  have k1 := h1
  have one1 : v1.cells.toList = [v1] := by obtain ⟨a_, len_, cap_, rfl⟩ := okWide_slice Try.underlying22 (hval 1 22 v1 rfl rfl); rfl
  obtain ⟨A1, c1, l1, rfl, hc1, hr1, hq1⟩ := arg_slice opens22 one1 h1
  clear hA0 hval0 hsz0
  have hkk := Pure.PeersHeard (a0) (l1) w0 hq1
  refine (mosaiclaw18_PeersHeard.calls a0 A1 c1 l1 true W hr1 hc1 hkk).mono ?_
  rintro e W' ⟨rfl, hd_⟩
  have bel : Below W.heap.size W W' := hd_
  exact ⟨_, rfl, _, _, _, [], _, [], hW', trodAll_mk1 (shut_bool Try.underlying4 _), (trodAll_cons_mk (shut_int Try.underlying3 w0) (trodAll_cons_mk (Below.trod laidOut (by kernel_rfl) (of_decide_eq_true (by kernel_rfl)) k1 bel lt1) trodAll_mk0)), rfl, bel.frame _, fun h => by cases h⟩
theorem facts : joinedFacts Try.pinned.checked.prog 4 Try.f4 Rows.peersHeardSpec Rows.peersHeardRow = true := by
  unfold joinedFacts
  simp only [Bool.and_eq_true]
  repeat' apply And.intro
  any_goals (with_reducible exact Fct.mayEnter)
  any_goals ((with_reducible refine Fct.lifts _ ?_); rfl)
  any_goals ((with_reducible refine Fct.make_ _ ?_); rfl)
  all_goals (as_aux_lemma => kernel_rfl)
theorem over : Rows.peersHeardRow.holds Try.pinned (OpenSpec.ofChange Rows.peersHeardSpec) :=
  OpenClaim.holds_of_wide 4 Try.f4 rfl rfl rfl rfl rfl rfl rfl ⟨rfl, rfl, rfl, rfl, rfl⟩ rfl rfl rfl rfl rfl (by as_aux_lemma => kernel_rfl) Try.func4 facts
    (of_decide_eq_true (by as_aux_lemma => kernel_rfl)) (by unfold Func.isWrapper; first | (rw [if_pos (by decide +kernel)]; as_aux_lemma => kernel_rfl) | (rw [if_neg (by decide +kernel)]; exact ⟨rfl, rfl⟩))
    (fun os started H enc _ => lifted os started H enc)
theorem proved : Rows.PeersHeardSaid := over
#print axioms proved
end Go.Proofs.Ytpejjpecdkbleaa.peersHeard
namespace Go.Proofs.Ytpejjpecdkbleaa
/-- The row, under a short name, for the claim. -/
theorem peersHeard_holds : Rows.PeersHeardSaid := peersHeard.proved
end Go.Proofs.Ytpejjpecdkbleaa
