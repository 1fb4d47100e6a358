/- The given statement StoreFullSaid is proved: the law mosaiclaw14_StoreFull returns true for every input, without a panic; out of its pure statement (YtcddajdjmlmpdaaPureStoreFull) and the walks of the functions that it reaches; no condition beyond the statement's own. -/
import Derived.Test.YtcddajdjmlmpdaaRows
import Derived.Test.YtcddajdjmlmpdaaOpn
import Derived.Test.YtcddajdjmlmpdaaFct
import Derived.Test.YtcddajdjmlmpdaaMaStoreFull
import Derived.Test.YtcddajdjmlmpdaaStmStoreFull
import Derived.Test.YtcddajdjmlmpdaaPureStoreFull
import Derived.WalkKit
import Derived.ProofKit
import Derived.OpenShut
import Derived.ShutString
import Derived.ChangeOld
import Derived.Below
import Derived.SizedLaws
import Derived.Carry
namespace Go.Proofs.Ytcddajdjmlmpdaa.storeFull
open Go.ChangeShapes Go.WideShapes Go.ChangeAt Go.RowKit Go.Proofs.Ytcddajdjmlmpdaa.Print Go.Proofs.YtcddajdjmlmpdaaW.PrintWords Go.Proofs.Ytcddajdjmlmpdaa.Open
open Go.ChangeMaps (open_string shut_string)
set_option linter.unusedVariables false
set_option linter.unusedSimpArgs false
theorem own : ownKnob Try.prog.godebug = none := by kernel_rfl
set_option maxRecDepth 100000 in
theorem lifted (os : Os) (started : os.Started) (H : Type) (enc : TypeId × Value → H) :
    ReturnsInHanded {} Try.checked os 3 .any (Rows.storeFullSpec.pre6 enc Try.prog Try.f3 Rows.storeFullRow.domain false) (Rows.storeFullSpec.post enc Try.prog Try.f3 false true false false) := by
  refine returnsInHanded_of_change_sized (C := Try.checked) own started (by kernel_rfl) Try.func3
    (ChangeSpec.witness6 (enc := enc) (C := Try.checked) false ⟨#[], #[.int .i64 0, .int .i64 0], []⟩ 8 (by kernel_rfl) (by kernel_rfl) (by kernel_rfl) (by kernel_rfl)) ?_
  intro W base args ds gs before hval0 hW hcnd hsz0 _
  have hval : ∀ (j : Nat) t v, Try.f3.params[j]? = some t → args[j]? = some v → Value.okWide Try.prog W .any base t v := hval0
  have hW' := hW
  obtain ⟨p, q, hA0, hV, rfl, hfz, hnd⟩ := hW
  have hA : DataW.TrodAll enc Try.prog W 0 (fun _ => true) true Try.f3.params.toList args.toList ds p := hA0
  rw [Try.params3] at hA hval
  obtain ⟨v0, vs0, d0, ds0, p0, q0, hargs, rfl, rfl, h0, r0⟩ := trodAll_cons hA
  obtain ⟨v1, vs1, d1, ds1, p1, q1, rfl, rfl, rfl, h1, r1⟩ := trodAll_cons r0
  obtain ⟨rfl, rfl, rfl⟩ := trodAll_nil r1
  obtain rfl : args = #[v0, v1] := by cases args; simp_all
  obtain ⟨rfl, rfl⟩ := trodVars_none hV
  obtain ⟨a0, rfl, rfl, rfl, w0⟩ := open_int Try.underlying3 (hval 0 3 v0 rfl rfl) h0
  obtain ⟨a1, rfl, rfl, rfl, w1⟩ := open_int Try.underlying3 (hval 1 3 v1 rfl rfl) h1
  clear hA0 hval0 hsz0
  have hkk := Pure.StoreFull (a0) (a1) w0 w1
  refine (mosaiclaw14_StoreFull.calls a0 a1 true W  hkk).mono ?_
  rintro e W' ⟨rfl, hd_⟩
  have bel : Below W.heap.size W W' := hd_
  exact ⟨_, rfl, _, _, _, [], _, [], hW', trodAll_mk1 (shut_bool Try.underlying4 _), (trodAll_cons_mk (shut_int Try.underlying3 w0) (trodAll_cons_mk (shut_int Try.underlying3 w1) trodAll_mk0)), rfl, bel.frame _, fun h => by cases h⟩
theorem facts : joinedFacts Try.pinned.checked.prog 3 Try.f3 Rows.storeFullSpec Rows.storeFullRow = true := by
  unfold joinedFacts
  simp only [Bool.and_eq_true]
  repeat' apply And.intro
  any_goals (with_reducible exact Fct.mayEnter)
  any_goals ((with_reducible refine Fct.lifts _ ?_); rfl)
  any_goals ((with_reducible refine Fct.make_ _ ?_); rfl)
  all_goals (as_aux_lemma => kernel_rfl)
theorem over : Rows.storeFullRow.holds Try.pinned (OpenSpec.ofChange Rows.storeFullSpec) :=
  OpenClaim.holds_of_wide 3 Try.f3 rfl rfl rfl rfl rfl rfl rfl ⟨rfl, rfl, rfl, rfl, rfl⟩ rfl rfl rfl rfl rfl (by as_aux_lemma => kernel_rfl) Try.func3 facts
    (of_decide_eq_true (by as_aux_lemma => kernel_rfl)) (by unfold Func.isWrapper; first | (rw [if_pos (by decide +kernel)]; as_aux_lemma => kernel_rfl) | (rw [if_neg (by decide +kernel)]; exact ⟨rfl, rfl⟩))
    (fun os started H enc _ => lifted os started H enc)
theorem proved : Rows.StoreFullSaid := over
#print axioms proved
end Go.Proofs.Ytcddajdjmlmpdaa.storeFull
namespace Go.Proofs.Ytcddajdjmlmpdaa
/-- The row, under a short name, for the claim. -/
theorem storeFull_holds : Rows.StoreFullSaid := storeFull.proved
end Go.Proofs.Ytcddajdjmlmpdaa
