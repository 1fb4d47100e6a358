/- net: 'same' of the law's mails and the document's, walked. -/
import Derived.Test.YtcddajdjmlmpdaaPrK
import Derived.Test.YtcddajdjmlmpdaaMaNet1
import Derived.Test.YtcddajdjmlmpdaaMaNet5
import Derived.Test.YtcddajdjmlmpdaaMaNet6
import Derived.Test.YtcddajdjmlmpdaaPr30
import Derived.Test.YtcddajdjmlmpdaaPrE59
import Derived.Test.YtcddajdjmlmpdaaMaNet7
import Derived.Test.YtcddajdjmlmpdaaPr30
import Derived.Test.YtcddajdjmlmpdaaPrE59
import Derived.IntWalk
import Derived.BigQuiet
import Derived.Deep.QuietTactic
import Derived.Deep.RegionLaw
import Derived.Deep.RegionHeld3
import Derived.RegionTactic
import Derived.StillTailTactics
import Derived.Outline
import Derived.Laws.CopyOwn
namespace Go.Proofs.Ytcddajdjmlmpdaa.Print
open Go.RowKit Go.Proofs.YtcddajdjmlmpdaaW.PrintWords Go.Proofs.YtcddajdjmlmpdaaW.PrintLast Go.Proofs.YtcddajdjmlmpdaaW.PrintMore
attribute [local go_sem high] eqA59
set_option linter.unusedVariables false
set_option linter.unusedSimpArgs false

theorem mailsN_len (m : NMs) : (mailsN m).length = m.length := List.length_map _
theorem rd_mails (m : NMs) (i : Nat) (h : i < m.length) : rd_T115 (mailsN m) (i : Int) = ⟨m[i].1, m[i].2⟩ := by
  unfold rd_T115 mailsN
  rw [Int.toNat_natCast, List.getD_eq_getElem?_getD, List.getElem?_eq_getElem (by rw [List.length_map]; exact h), List.getElem_map]
  rfl
theorem rd_refN (m : NMs) (i : Nat) (h : i < m.length) : rd_T59 (refN m) (i : Int) = ⟨m[i].1, m[i].2.f0, m[i].2.f1, m[i].2.f2⟩ := by
  rw [rdm _ i (by rw [refN_len]; exact h)]
  unfold refN
  rw [List.getElem_map]
set_option maxHeartbeats 3200000 in
set_option maxRecDepth 100000 in
theorem refSame {W : World} {A B : Option Addr} {c1 c2 : Nat} {m : NMs} (h1 : Kd.C k115 W A m.length (mailsN m)) (h2 : Kd.C k59 W B m.length (refN m)) (hl : m.length < 1000000) :
    Calls Try.prog 34 #[.slice A m.length c1, .slice B m.length c2] W fun e W2 => e = .returned (.bool true) ∧ Below W.heap.size W W2 := by
  have H1 := Aside0.mk h1
  have H2 := Aside0.mk h2
  clear h1 h2
  go_enter Try.func34, Try.ntmps34
  go_wp2_with fail
  go_loopg [5] (m.length + 1) (fun gg v5 wr => ∃ (i : Nat), v5 = .int .i64 i ∧ Aside0 (i + gg = m.length + 1) ∧ Aside0 (Below W.heap.size W wr))
  case atStart => exact ⟨0, rfl, ⟨by omega⟩, ⟨Below.refl _ _⟩⟩
  case round =>
    obtain ⟨i, rfl, HG, HB⟩ := hrel
    by_cases hi : i < m.length
    · obtain ⟨gg, rfl⟩ : ∃ z, gk = z + 1 := ⟨gk - 1, by have := HG.out; omega⟩
      have hlt : ((i : Int) < (m.length : Int)) = True := eq_true (by omega)
      have hlt2 : (i < m.length) = True := eq_true hi
      have HZ := Aside0.mk (fun (W' : World) (hb : Below W.heap.size W W') => And.intro (at_T115 (Kd.C_below H1.out hb) (i : Int) (by omega) (by omega)) (at_T59 (Kd.C_below H2.out hb) (i : Int) (by omega) (by omega)))
      rw [rd_mails m i hi, rd_refN m i hi, Int.toNat_natCast] at HZ
      generalize m[i] = q at HZ
      obtain ⟨⟨ad, hA, z0, z1, z2, z3⟩, ⟨bd, hB, y0, y1, y2, y3⟩⟩ := HZ.out wr HB.out
      subst hA
      subst hB
      clear y0 y1 y2 y3
      go_upto_region 7 with (go_at_call 30; refine (mosaiclaw21_ref.calls q.2.f0 q.2.f1 q.2.f2 0 q.2.f0 q.2.f1 q.2.f2 _ rfl).mono ?_; rintro e W4 ⟨rfl, hb4⟩; have HB4 := Aside0.mk (below_step HB.out hb4); clear hb4 z0 z1 z2 z3)
      have HX := Aside0.mk (heap_alloc_new W4 (.cells #[.int .i64 0, .int .i64 q.2.f0, .int .i64 q.2.f1, .string q.2.f2] 59))
      have HB5 := Aside0.mk (below_alloc HB4.out (.cells #[.int .i64 0, .int .i64 q.2.f0, .int .i64 q.2.f1, .string q.2.f2] 59))
      generalize W4.alloc (.cells #[.int .i64 0, .int .i64 q.2.f0, .int .i64 q.2.f1, .string q.2.f2] 59) = W5 at HX HB5 ⊢
      obtain ⟨⟨ad_, hA, z0, z1, z2, z3⟩, _⟩ := HZ.out W5 HB5.out
      obtain rfl := Option.some.inj hA
      clear hA
      have c0 := (show W5.cell? ⟨W4.heap.size, 0, none⟩ = some (.int .i64 0) from blk_cell HX.out 0)
      have f0 := (show W5.frozen? ⟨W4.heap.size, 0, none⟩ = false from blk_frozen HX.out 0)
      go_upto_region 8 with fail
      have HX6 := Aside0.mk (blk_put (cs' := #[.int .i64 q.1, .int .i64 q.2.f0, .int .i64 q.2.f1, .string q.2.f2]) HX.out 0 (.int .i64 q.1) rfl)
      have hsz := HB4.out.size
      have HB6 := Aside0.mk (HB5.out.setCell (p := ⟨W4.heap.size, 0, none⟩) hsz (.int .i64 q.1))
      generalize W5.setCell ⟨W4.heap.size, 0, none⟩ (.int .i64 q.1) = W6 at HX6 HB6 ⊢
      clear z0 z1 z2 z3 c0 f0
      obtain ⟨_, ⟨bd_, hB, y0, y1, y2, y3⟩⟩ := HZ.out W6 HB6.out
      obtain rfl := Option.some.inj hB
      clear hB
      have c0 := (show W6.cell? ⟨W4.heap.size, 0, none⟩ = some (.int .i64 q.1) from blk_cell HX6.out 0)
      have c1 := (show W6.cell? ⟨W4.heap.size, 1, none⟩ = some (.int .i64 q.2.f0) from blk_cell HX6.out 1)
      have c2 := (show W6.cell? ⟨W4.heap.size, 2, none⟩ = some (.int .i64 q.2.f1) from blk_cell HX6.out 2)
      have c3 := (show W6.cell? ⟨W4.heap.size, 3, none⟩ = some (.string q.2.f2) from blk_cell HX6.out 3)
      go_quiet (fail)
      go_wp2_with fail
      go_roundg gg
      case measure => omega
      case rel => exact ⟨i + 1, by go_num, ⟨by have := HG.out; omega⟩, ⟨pw_below_drewN HB6.out _⟩⟩
    · have hlt : ((i : Int) < (m.length : Int)) = False := eq_false (by omega)
      have hlt2 : (i < m.length) = False := eq_false hi
      go_wp2_with fail
      go_ret
      exact ⟨rfl, HB.out⟩
end Go.Proofs.Ytcddajdjmlmpdaa.Print
