/- The given statement NetNilSaid is proved: the law mosaiclaw21_NetNil returns true for every input, without a panic; out of its pure statement (YtcddajdjmlmpdaaPureNetNil) and the walks of the functions that it reaches; no condition beyond the statement's own. -/
import Derived.Test.YtcddajdjmlmpdaaRows
import Derived.Test.YtcddajdjmlmpdaaOpn
import Derived.Test.YtcddajdjmlmpdaaFct
import Derived.Test.YtcddajdjmlmpdaaMaNetNil
import Derived.Test.YtcddajdjmlmpdaaStmNetNil
import Derived.Test.YtcddajdjmlmpdaaPureNetNil
import Derived.WalkKit
import Derived.ProofKit
import Derived.OpenShut
import Derived.ShutString
import Derived.ChangeOld
import Derived.Below
import Derived.SizedLaws
import Derived.Carry
namespace Go.Proofs.Ytcddajdjmlmpdaa.netNil
open Go.ChangeShapes Go.WideShapes Go.ChangeAt Go.RowKit Go.Proofs.Ytcddajdjmlmpdaa.Print Go.Proofs.YtcddajdjmlmpdaaW.PrintWords Go.Proofs.Ytcddajdjmlmpdaa.Open
open Go.ChangeMaps (open_string shut_string)
set_option linter.unusedVariables false
set_option linter.unusedSimpArgs false
theorem own : ownKnob Try.prog.godebug = none := by kernel_rfl
theorem laidOut : laidOutB Try.prog = true := by kernel_rfl
set_option maxRecDepth 100000 in
theorem lifted (os : Os) (started : os.Started) (H : Type) (enc : TypeId × Value → H) :
    ReturnsInHanded {} Try.checked os 7 .any (Rows.netNilSpec.pre6 enc Try.prog Try.f7 Rows.netNilRow.domain false) (Rows.netNilSpec.post enc Try.prog Try.f7 false true false false) := by
  refine returnsInHanded_of_change_sized (C := Try.checked) own started (by kernel_rfl) Try.func7
    (ChangeSpec.witness6 (enc := enc) (C := Try.checked) false ⟨#[], #[.agg #[.int .i64 0, .int .i64 0, .int .i64 0, .int .i64 0, .string ByteArray.empty]], []⟩ 8 (by kernel_rfl) (by kernel_rfl) (by kernel_rfl) (by kernel_rfl)) ?_
  intro W base args ds gs before hval0 hW hcnd hsz0 _
  have hval : ∀ (j : Nat) t v, Try.f7.params[j]? = some t → args[j]? = some v → Value.okWide Try.prog W .any base t v := hval0
  have hW' := hW
  obtain ⟨p, q, hA0, hV, rfl, hfz, hnd⟩ := hW
  have hA : DataW.TrodAll enc Try.prog W 0 (fun _ => true) true Try.f7.params.toList args.toList ds p := hA0
  rw [Try.params7] at hA hval
  obtain ⟨v0, vs0, d0, ds0, p0, q0, hargs, rfl, rfl, h0, r0⟩ := trodAll_cons hA
  obtain ⟨rfl, rfl, rfl⟩ := trodAll_nil r0
  obtain rfl : args = #[v0] := by cases args; simp_all
  obtain ⟨rfl, rfl⟩ := trodVars_none hV
  have lt0 : ∀ x ∈ p0, x.block < W.heap.size := by obtain ⟨m, hm⟩ := h0; exact DataW.trod_lt m _ _ _ hm
  have k0 := h0
  obtain ⟨f0, hf0⟩ := h0
  obtain ⟨x0, hK0, hq0⟩ := opens50.2 enc W f0 _ _ hf0
  have hcs0 := k50_open hK0
  obtain rfl := arg_agg Try.underlying50 (hval 0 50 v0 rfl rfl) hcs0
  clear hA0 hval0 hsz0
  have hkk := Pure.NetNil (x0.f0) (x0.f1) (x0.f2.f0) (x0.f2.f1) (x0.f2.f2) hq0.1 hq0.2.1 hq0.2.2.1 hq0.2.2.2.1 hq0.2.2.2.2
  refine (mosaiclaw21_NetNil.calls (x0.f0) (x0.f1) (x0.f2.f0) (x0.f2.f1) (x0.f2.f2) true W  hkk).mono ?_
  rintro e W' ⟨rfl, hd_⟩
  have bel : Below W.heap.size W W' := hd_
  exact ⟨_, rfl, _, _, _, [], _, [], hW', trodAll_mk1 (shut_bool Try.underlying4 _), (trodAll_cons_mk (Below.trod laidOut (by kernel_rfl) (of_decide_eq_true (by kernel_rfl)) k0 bel lt0) trodAll_mk0), rfl, bel.frame _, fun h => by cases h⟩
theorem facts : joinedFacts Try.pinned.checked.prog 7 Try.f7 Rows.netNilSpec Rows.netNilRow = true := by
  unfold joinedFacts
  simp only [Bool.and_eq_true]
  repeat' apply And.intro
  any_goals (with_reducible exact Fct.mayEnter)
  any_goals ((with_reducible refine Fct.lifts _ ?_); rfl)
  any_goals ((with_reducible refine Fct.make_ _ ?_); rfl)
  all_goals (as_aux_lemma => kernel_rfl)
theorem over : Rows.netNilRow.holds Try.pinned (OpenSpec.ofChange Rows.netNilSpec) :=
  OpenClaim.holds_of_wide 7 Try.f7 rfl rfl rfl rfl rfl rfl rfl ⟨rfl, rfl, rfl, rfl, rfl⟩ rfl rfl rfl rfl rfl (by as_aux_lemma => kernel_rfl) Try.func7 facts
    (of_decide_eq_true (by as_aux_lemma => kernel_rfl)) (by unfold Func.isWrapper; first | (rw [if_pos (by decide +kernel)]; as_aux_lemma => kernel_rfl) | (rw [if_neg (by decide +kernel)]; exact ⟨rfl, rfl⟩))
    (fun os started H enc _ => lifted os started H enc)
theorem proved : Rows.NetNilSaid := over
#print axioms proved
end Go.Proofs.Ytcddajdjmlmpdaa.netNil
namespace Go.Proofs.Ytcddajdjmlmpdaa
/-- The row, under a short name, for the claim. -/
theorem netNil_holds : Rows.NetNilSaid := netNil.proved
end Go.Proofs.Ytcddajdjmlmpdaa
