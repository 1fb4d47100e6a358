/- store: the page's example; a nil store. -/
import Derived.Test.YtcddajdjmlmpdaaPrK
import Derived.Test.YtcddajdjmlmpdaaMaGaussMay
import Derived.Test.YtcddajdjmlmpdaaMaStore3
import Derived.Test.YtcddajdjmlmpdaaMaStore4
import Derived.Test.YtcddajdjmlmpdaaMaStore6
import Derived.Test.YtcddajdjmlmpdaaPr15
import Derived.Test.YtcddajdjmlmpdaaMaStore6
import Derived.Test.YtcddajdjmlmpdaaPr15
import Derived.IntWalk
import Derived.BigQuiet
import Derived.Deep.QuietTactic
import Derived.Deep.RegionLaw
import Derived.Deep.RegionHeld3
import Derived.RegionTactic
import Derived.StillTailTactics
import Derived.Outline
import Derived.Laws.CopyOwn
namespace Go.Proofs.Ytcddajdjmlmpdaa.Print
open Go.RowKit Go.Proofs.YtcddajdjmlmpdaaW.PrintWords Go.Proofs.YtcddajdjmlmpdaaW.PrintLast Go.Proofs.YtcddajdjmlmpdaaW.PrintMore
open Go.ChangeMaps (setBlock)
open Go.Maps (Keyed)
set_option linter.unusedVariables false
set_option linter.unusedSimpArgs false

set_option maxRecDepth 100000 in
theorem OfS_nil (i : Int) (W : World) : Calls Try.prog 46 #[.pointer none, .int .i64 i] W fun e W2 => e = .returned (.slice none 0 0) ∧ Below W.heap.size W W2 := by
  go_enter Try.func46, Try.ntmps46
  go_wp2_with fail
  refine (idsS_nil _ _).mono ?_
  rintro e W2 ⟨rfl, hb⟩
  go_wp2_with fail
  go_ret
  exact ⟨rfl, below_step (below_alloc (Below.refl _ _) _) hb⟩
set_option maxRecDepth 100000 in
theorem WithS_nil (i : Int) (W : World) : Calls Try.prog 53 #[.pointer none, .int .i64 i] W fun e W2 => e = .returned (.slice none 0 0) ∧ Below W.heap.size W W2 := by
  go_enter Try.func53, Try.ntmps53
  go_wp2_with fail
  refine (idsS_nil _ _).mono ?_
  rintro e W2 ⟨rfl, hb⟩
  go_wp2_with fail
  go_ret
  exact ⟨rfl, below_step (below_alloc (Below.refl _ _) _) hb⟩
set_option maxRecDepth 100000 in
theorem DropPeerS_nil (i : Int) (W : World) : Calls Try.prog 40 #[.pointer none, .int .i64 i] W fun e W2 => e = .returned (.slice none 0 0) ∧ Below W.heap.size W W2 := by
  go_enter Try.func40, Try.ntmps40
  go_wp2_with fail
  refine (OfS_nil i _).mono ?_
  rintro e W2 ⟨rfl, hb⟩
  have HB := Aside0.mk hb
  clear hb
  go_wp2_with fail
  go_loopg [13] 1 (fun gg v13 wr => v13 = .int .i64 0 ∧ Aside0 (Below W.heap.size W wr))
  case atStart => exact ⟨rfl, HB⟩
  case round =>
    obtain ⟨rfl, HB1⟩ := hrel
    go_wp2_with fail
    go_ret
    exact ⟨rfl, HB1.out⟩
set_option maxRecDepth 100000 in
theorem AllS_nil (W : World) : Calls Try.prog 44 #[.pointer none] W fun e W2 => e = .returned (.slice none 0 0) ∧ Below W.heap.size W W2 := by
  go_enter Try.func44, Try.ntmps44
  go_wp2_with fail
  refine (idsS_nil _ _).mono ?_
  rintro e W2 ⟨rfl, hb⟩
  have HB := Aside0.mk hb
  clear hb
  go_wp2_with fail
  go_loopg [3, 11] 1 (fun gg v3 v11 wr => v3 = .slice none 0 0 ∧ v11 = .int .i64 0 ∧ Aside0 (Below W.heap.size W wr))
  case atStart => exact ⟨rfl, rfl, HB⟩
  case round =>
    obtain ⟨rfl, rfl, HB1⟩ := hrel
    go_wp2_with fail
    go_ret
    exact ⟨rfl, HB1.out⟩
/-- An entry of the page's example. -/
def enE (p s : Int) : En := ⟨0, p, ⟨0, s, ⟨#[]⟩⟩, [Int.tmod s 100], ⟨#[120]⟩⟩
theorem entry_calls (p s : Int) (W : World) : Calls Try.prog 15 #[.int .i64 p, .int .i64 s] W fun e W2 => ∃ A c, e = .returned (.agg #[.int .i64 0, .int .i64 p, .int .i64 0, .int .i64 s, .string ⟨#[]⟩, .slice A 1 c, .string ⟨#[120]⟩]) ∧ Kd.R (Kd.int .i64) 3 W2 W.heap.size (fun _ => True) (.slice A 1 c) (enE p s).f3 ∧ Below W.heap.size W W2 := by
  refine (mosaiclaw14_entry.calls p s _ _ _ _ _ _ _ W rfl).mono ?_
  rintro e W2 ⟨v, rfl, hr, hb⟩
  obtain ⟨A, c, rfl⟩ := Kd.R_slice hr
  exact ⟨A, c, rfl, hr, hb⟩
theorem enE_ok (p s : Int) (hp : (Lit.int .i64 p).wf = true) (hs : (Lit.int .i64 s).wf = true) : EnOk (enE p s) := ⟨hp, show (Lit.int .i64 0).wf = true by decide, hs, show (⟨#[]⟩ : ByteArray).size ≤ 1000000 by decide, show 0 < 1 ∧ 1 < 1000000 by omega⟩
theorem enE_may (p s : Int) (hp : 1 ≤ p ∧ p ≤ 15) (hs : 0 ≤ s) : mayE (enE p s) = true := by
  unfold mayE
  rw [decide_eq_true (show 1 ≤ (enE p s).f1 ∧ (enE p s).f1 ≤ 15 from hp), decide_eq_true (show 0 < (enE p s).f3.length from Nat.zero_lt_one), decide_eq_true (show (enE p s).f4.size ≤ 64 from (show (⟨#[120]⟩ : ByteArray).size ≤ 64 by decide)), decide_eq_true (show (enE p s).f4.toList ≠ [] by show (⟨#[120]⟩ : ByteArray).toList ≠ []; simp)]
  have h0 : Int.tmod s 100 = s % 100 := Int.tmod_eq_emod_of_nonneg hs
  have h1 := Int.emod_nonneg s (show (100 : Int) ≠ 0 by omega)
  have h2 := Int.emod_lt_of_pos s (show (0 : Int) < 100 by omega)
  have h3 : mayRowB 160 (enE p s).f3 = true := by
    show mayFrom 160 (-1) [Int.tmod s 100] = true
    unfold mayFrom mayFrom
    rw [decide_eq_true (show -1 < Int.tmod s 100 ∧ Int.tmod s 100 < 160 by omega)]
    rfl
  rw [h3]
  rfl
theorem sameK_ne {p q s t i : Int} (h : s ≠ t) : sameK { enE p s with f0 := i } (enE q t) = false := decide_eq_false (fun hh => h hh.2.2.1)
set_option maxHeartbeats 3200000 in
set_option maxRecDepth 100000 in
theorem awake14 (W : World) : Calls Try.prog 13 #[] W fun e W2 => e = .returned (.bool true) ∧ Below W.heap.size W W2 := by
  have wf1 : (Lit.int .i64 1).wf = true := by decide
  have wf2 : (Lit.int .i64 2).wf = true := by decide
  have wf3 : (Lit.int .i64 3).wf = true := by decide
  go_enter Try.func13, Try.ntmps13
  go_wp2_with fail
  refine (NewS_yes 2 W (by decide) (by decide)).mono ?_
  rintro e W1 ⟨g, b1, b2, rfl, t⟩
  have T1 := Aside0.mk t
  clear t
  go_wp2_with fail
  refine (entry_calls 1 1 _).mono ?_
  rintro e E1 ⟨A1, c1, rfl, hr, hb⟩
  have TE1 := Aside0.mk (T1.out.below hb)
  have HR1 := Aside0.mk hr
  clear hr hb T1
  go_wp2_with fail
  refine (TE1.out.Add_ok (enE 1 1) (RowAp.mine HR1.out TE1.out rfl) (Kd.R_reads' HR1.out).2.1 (enE_may 1 1 (by decide) (by decide)) (enE_ok 1 1 wf1 wf1) (show thereS [] (enE 1 1) = false from rfl) (show ((0 : Nat) : Int) < 2 by decide) (by decide)).mono ?_
  rintro e X1 ⟨v1, he, d⟩
  have he2 : e = .returned (.tuple #[.int .i64 1, .int .i64 0]) := he
  subst he2
  have T2 := Aside0.mk (show StAt W X1 g b1 b2 2 1 [({ enE 1 1 with f0 := 1 }, v1)] from d.st)
  clear d he TE1 HR1
  go_wp2_with fail
  refine (entry_calls 1 2 _).mono ?_
  rintro e E2 ⟨A2, c2, rfl, hr, hb⟩
  have TE2 := Aside0.mk (T2.out.below hb)
  have HR2 := Aside0.mk hr
  clear hr hb T2
  go_wp2_with fail
  refine (TE2.out.Add_ok (enE 1 2) (RowAp.mine HR2.out TE2.out rfl) (Kd.R_reads' HR2.out).2.1 (enE_may 1 2 (by decide) (by decide)) (enE_ok 1 2 wf1 wf2) (show thereS [({ enE 1 1 with f0 := 1 }, v1)] (enE 1 2) = false from rfl) (show ((1 : Nat) : Int) < 2 by decide) (by decide)).mono ?_
  rintro e X2 ⟨v2, he, d⟩
  have he2 : e = .returned (.tuple #[.int .i64 2, .int .i64 0]) := he
  subst he2
  have T3 := Aside0.mk (show StAt W X2 g b1 b2 2 2 [({ enE 1 1 with f0 := 1 }, v1), ({ enE 1 2 with f0 := 2 }, v2)] from d.st)
  clear d he TE2 HR2
  go_wp2_with fail
  refine (entry_calls 1 3 _).mono ?_
  rintro e E3 ⟨A3, c3, rfl, hr, hb⟩
  have TE3 := Aside0.mk (T3.out.below hb)
  have HR3 := Aside0.mk hr
  clear hr hb T3
  go_wp2_with fail
  refine (TE3.out.Add_full (enE 1 3) (RowAp.mine HR3.out TE3.out rfl) (Kd.R_reads' HR3.out).2.1 (enE_may 1 3 (by decide) (by decide)) (enE_ok 1 3 wf1 wf3) (show thereS [({ enE 1 1 with f0 := 1 }, v1), ({ enE 1 2 with f0 := 2 }, v2)] (enE 1 3) = false from rfl) (show (2 : Int) ≤ 2 by decide)).mono ?_
  rintro e X3 ⟨he, hb⟩
  have he2 : e = .returned (.tuple #[.int .i64 0, .int .i64 6]) := he
  subst he2
  have T4 := Aside0.mk (TE3.out.below hb)
  clear he hb TE3 HR3
  go_wp2_with fail
  refine (T4.out.Drop_any 1 wf1).mono ?_
  rintro e X4 ⟨he, d⟩
  have he2 : e = .returned (.int .i64 0) := he
  subst he2
  have T5 := Aside0.mk (show StAt W X4 g b1 b2 2 2 [({ enE 1 2 with f0 := 2 }, v2)] from d.st)
  clear d he T4
  go_wp2_with fail
  refine (entry_calls 1 3 _).mono ?_
  rintro e E5 ⟨A5, c5, rfl, hr, hb⟩
  have TE5 := Aside0.mk (T5.out.below hb)
  have HR5 := Aside0.mk hr
  clear hr hb T5
  go_wp2_with fail
  refine (TE5.out.Add_ok (enE 1 3) (RowAp.mine HR5.out TE5.out rfl) (Kd.R_reads' HR5.out).2.1 (enE_may 1 3 (by decide) (by decide)) (enE_ok 1 3 wf1 wf3) (show thereS [({ enE 1 2 with f0 := 2 }, v2)] (enE 1 3) = false from rfl) (show ((1 : Nat) : Int) < 2 by decide) (by decide)).mono ?_
  rintro e X5 ⟨v3, he, d⟩
  have he2 : e = .returned (.tuple #[.int .i64 3, .int .i64 0]) := he
  subst he2
  have T6 := Aside0.mk (show StAt W X5 g b1 b2 2 3 [({ enE 1 2 with f0 := 2 }, v2), ({ enE 1 3 with f0 := 3 }, v3)] from d.st)
  clear d he TE5 HR5
  have HL := Aside0.mk T6.out.Len_any
  go_wp2_with (go_at_call 17; refine HL.out.mono ?_; rintro e W7 ⟨rfl, rfl⟩)
  go_ret
  exact ⟨rfl, T6.out.bel⟩
end Go.Proofs.Ytcddajdjmlmpdaa.Print
