/- net: ids, To, Nth of a net; a nil net; the page's example. -/
import Derived.Test.YtcddajdjmlmpdaaPrK
import Derived.Test.YtcddajdjmlmpdaaMaNet1
import Derived.Test.YtcddajdjmlmpdaaMaNet2
import Derived.Test.YtcddajdjmlmpdaaMaNet3
import Derived.Test.YtcddajdjmlmpdaaMaSort1
import Derived.Test.YtcddajdjmlmpdaaPr63
import Derived.Test.YtcddajdjmlmpdaaMaNet3
import Derived.Test.YtcddajdjmlmpdaaMaSort1
import Derived.IntWalk
import Derived.BigQuiet
import Derived.Deep.QuietTactic
import Derived.Deep.RegionLaw
import Derived.Deep.RegionHeld3
import Derived.RegionTactic
import Derived.StillTailTactics
import Derived.Outline
import Derived.Laws.CopyOwn
import Derived.Shelf.GgClosure.Gives
namespace Go.Proofs.Ytcddajdjmlmpdaa.Print
open Go.RowKit Go.Proofs.YtcddajdjmlmpdaaW.PrintWords Go.Proofs.YtcddajdjmlmpdaaW.PrintLast Go.Proofs.YtcddajdjmlmpdaaW.PrintMore
open Go.ChangeMaps (setBlock)
open Go.Maps (Keyed)
set_option linter.unusedVariables false
set_option linter.unusedSimpArgs false

section
variable {w W W2 : World} {g b : Nat} {room last : Int} {m : NMs}
theorem NetAt.ids_any (h : NetAt w W g b room last m) (hm : m.length < 1000000) (cl : Nat) (lb : Array Value) (p : Gr → Bool) (eg : ∀ args w, (callFunc cl args).run Try.prog w = .ok (.enter cl args) w)
    (hc : ∀ (W' : World) (x : Gr), Below W.heap.size W W' → Calls Try.prog cl (#[.agg #[.int .i64 x.f0, .int .i64 x.f1, .string x.f2]] ++ lb) W' fun e W3 => e = .returned (.bool (p x)) ∧ Below W'.heap.size W' W3) :
    Calls Try.prog 62 #[.pointer (some ⟨g, 0, none⟩), .func (.func cl) #[] lb] W fun e W2 => ∃ v, e = .returned v ∧ Kd.R (Kd.int .i64) 3 W2 W.heap.size (fun _ => True) v (idsN p m) ∧ Below W.heap.size W W2 :=
  h.ids_loop hm cl lb p eg hc (fun W' v acc hb hr hl => sort_calls hb hr hl)
theorem NetAt.all_any (h : NetAt w W g b room last m) (hm : m.length < 1000000) :
    Calls Try.prog 62 #[.pointer (some ⟨g, 0, none⟩), .func (.func 63) #[] #[]] W fun e W2 => ∃ v, e = .returned v ∧ Kd.R (Kd.int .i64) 3 W2 W.heap.size (fun _ => True) v (m.map (·.1)) ∧ Below W.heap.size W W2 := by
  have := h.ids_any hm 63 #[] (fun _ => true) (enters_of Try.func63 (by kernel_rfl) rfl) (fun W' x hb => net_all.calls x.f0 x.f1 x.f2 true W' rfl)
  rw [show idsN (fun _ => true) m = m.map (·.1) by unfold idsN; rw [List.filter_eq_self.2 (by simp)]] at this
  exact this
theorem ids_nil (f : Value) (W : World) : Calls Try.prog 62 #[.pointer none, f] W fun e W2 => e = .returned (.slice none 0 0) ∧ Below W.heap.size W W2 := by
  go_enter Try.func62, Try.ntmps62
  go_wp2_with fail
  go_ret
  exact ⟨rfl, Below.refl _ _⟩
theorem Len_nil (W : World) : Calls Try.prog 25 #[.pointer none] W fun e W2 => e = .returned (.int .i64 0) ∧ Below W.heap.size W W2 := by
  go_enter Try.func25, Try.ntmps25
  go_wp2_with fail
  go_ret
  exact ⟨rfl, Below.refl _ _⟩
set_option maxRecDepth 100000 in
theorem Send_nil (x : Gr) (W : World) : Calls Try.prog 20 #[.pointer none, .agg #[.int .i64 x.f0, .int .i64 x.f1, .string x.f2]] W fun e W2 => e = .returned (.tuple #[.int .i64 0, .int .i64 1]) ∧ Below W.heap.size W W2 := by
  go_enter Try.func20, Try.ntmps20
  go_wp2_with fail
  go_ret2
  exact ⟨rfl, below_alloc (Below.refl _ _) _⟩
theorem Nth_nil (i : Int) (W : World) : Calls Try.prog 24 #[.pointer none, .int .i64 i] W fun e W2 => e = .returned (.int .i64 0) ∧ Below W.heap.size W W2 := by
  go_enter Try.func24, Try.ntmps24
  go_wp2_with fail
  refine (ids_nil _ _).mono ?_
  rintro e W2 ⟨rfl, hb⟩
  go_wp2_with fail
  go_ret
  exact ⟨rfl, hb⟩
theorem To_nil (i : Int) (W : World) : Calls Try.prog 37 #[.pointer none, .int .i64 i] W fun e W2 => e = .returned (.slice none 0 0) ∧ Below W.heap.size W W2 := by
  go_enter Try.func37, Try.ntmps37
  go_wp2_with fail
  refine (ids_nil _ _).mono ?_
  rintro e W2 ⟨rfl, hb⟩
  go_wp2_with fail
  go_ret
  exact ⟨rfl, below_step (below_alloc (Below.refl _ _) _) hb⟩
set_option maxRecDepth 100000 in
theorem List_nil (W : World) : Calls Try.prog 35 #[.pointer none] W fun e W2 => e = .returned (.slice none 0 0) ∧ Below W.heap.size W W2 := by
  go_enter Try.func35, Try.ntmps35
  go_wp2_with fail
  refine (ids_nil _ _).mono ?_
  rintro e W2 ⟨rfl, hb⟩
  have HB := Aside0.mk hb
  clear hb
  go_wp2_with fail
  go_loopg [3, 9] 1 (fun gg v3 v9 wr => v3 = .slice none 0 0 ∧ v9 = .int .i64 0 ∧ Aside0 (Below W.heap.size W wr))
  case atStart => exact ⟨rfl, rfl, HB⟩
  case round =>
    obtain ⟨rfl, rfl, HB1⟩ := hrel
    go_wp2_with fail
    go_ret
    exact ⟨rfl, HB1.out⟩
set_option maxRecDepth 100000 in
theorem Lose_nil (id : Int) (W : World) : Calls Try.prog 27 #[.pointer none, .int .i64 id] W fun e W2 => e = .returned (.int .i64 1) ∧ Below W.heap.size W W2 := by
  go_enter Try.func27, Try.ntmps27
  go_wp2_with fail
  refine (Take_nil id _).mono ?_
  rintro e W2 ⟨rfl, hb⟩
  have HB := Aside0.mk hb
  clear hb
  go_wp2_with fail
  go_ret
  exact ⟨rfl, below_alloc HB.out _⟩
set_option maxRecDepth 100000 in
theorem Twice_nil (id : Int) (W : World) : Calls Try.prog 22 #[.pointer none, .int .i64 id] W fun e W2 => e = .returned (.tuple #[.int .i64 0, .int .i64 1]) ∧ Below W.heap.size W W2 := by
  go_enter Try.func22, Try.ntmps22
  go_wp2_with fail
  refine (find_nil id _).mono ?_
  rintro e W2 ⟨rfl, hb⟩
  have HB := Aside0.mk hb
  clear hb
  go_wp2_with fail
  go_ret2
  exact ⟨rfl, below_alloc HB.out _⟩
/-- The number of one of them. -/
def nthN (m : NMs) (i : Int) : Int := if m.length = 0 ∨ i < 0 then 0 else rd (m.map (·.1)) (i % (m.length : Int))
set_option maxRecDepth 100000 in
theorem NetAt.Nth_any (h : NetAt w W g b room last m) (hm : m.length < 1000000) (i : Int) (hi : -9223372036854775808 ≤ i ∧ i ≤ 9223372036854775807) : Calls Try.prog 24 #[.pointer (some ⟨g, 0, none⟩), .int .i64 i] W fun e W2 => e = .returned (.int .i64 (nthN m i)) ∧ Below W.heap.size W W2 := by
  have HA := Aside0.mk (h.all_any hm)
  clear h
  by_cases h0 : m.length = 0
  · rw [show nthN m i = 0 from if_pos (.inl h0)]
    go_enter Try.func24, Try.ntmps24
    go_wp2_with fail
    refine HA.out.mono ?_
    rintro e W2 ⟨v, rfl, hr, hb⟩
    obtain ⟨A5, c5, hv⟩ := Kd.R_slice hr
    subst hv
    rw [List.length_map]
    have HR := Aside0.mk (Kd.R_reads' hr).2.2
    have HB := Aside0.mk hb
    clear hr hb HA
    rw [h0]
    go_wp2_with fail
    go_ret
    exact ⟨rfl, HB.out⟩
  · have h0' : ((m.length : Int) == 0) = false := by simp [h0]
    by_cases h1 : i < 0
    · rw [show nthN m i = 0 from if_pos (.inr h1)]
      have h1' : (i < 0) = True := eq_true h1
      clear h1
      go_enter Try.func24, Try.ntmps24
      go_wp2_with fail
      refine HA.out.mono ?_
      rintro e W2 ⟨v, rfl, hr, hb⟩
      obtain ⟨A5, c5, hv⟩ := Kd.R_slice hr
      subst hv
      rw [List.length_map]
      have HR := Aside0.mk (Kd.R_reads' hr).2.2
      have HB := Aside0.mk hb
      clear hr hb HA
      go_wp2_with fail
      go_ret
      exact ⟨rfl, HB.out⟩
    · rw [show nthN m i = rd (m.map (·.1)) (i % (m.length : Int)) from if_neg (fun h => h.elim h0 h1)]
      have h1' : (i < 0) = False := eq_false h1
      have hn0 : 0 ≤ i % (m.length : Int) := Int.emod_nonneg _ (by omega)
      have hn1 : i % (m.length : Int) < (m.length : Int) := Int.emod_lt_of_pos _ (by omega)
      go_enter Try.func24, Try.ntmps24
      go_wp2_with fail
      refine HA.out.mono ?_
      rintro e W2 ⟨v, rfl, hr, hb⟩
      obtain ⟨A5, c5, hv⟩ := Kd.R_slice hr
      subst hv
      rw [List.length_map]
      have HR := Aside0.mk (Kd.R_reads' hr).2.2
      have HB := Aside0.mk hb
      clear hr hb HA
      obtain ⟨ad, hA, hx⟩ := Kd.at_int HR.out (i % (m.length : Int)) hn0 (by rw [List.length_map]; exact hn1)
      subst hA
      go_wp2_with fail
      go_ret
      exact ⟨rfl, HB.out⟩
end
theorem footN_not {W : World} {b t : Nat} {cells : Array Value} (h : W.heap[b]? = some (.cells cells t (0, 0))) (h1 : t ≠ 110) : ¬ FootN W b := by
  rintro (⟨es, c, hc⟩ | ⟨c, hc⟩)
  · rw [h] at hc
    cases hc
  · rw [h] at hc
    injection hc with hc
    injection hc with _ hc
    exact h1 hc
def aG : Gr := ⟨1, 2, ⟨#[120]⟩⟩
set_option maxHeartbeats 1600000 in
set_option maxRecDepth 100000 in
theorem awake21 (W : World) : Calls Try.prog 19 #[] W fun e W2 => e = .returned (.bool true) ∧ Below W.heap.size W W2 := by
  have wf1 : (Lit.int .i64 1).wf = true := by decide
  have wf2 : (Lit.int .i64 2).wf = true := by decide
  go_enter Try.func19, Try.ntmps19
  go_wp2_with fail
  refine (New_yes 5 W (by decide) (by decide)).mono ?_
  rintro e W1 ⟨g, b, rfl, t⟩
  have T1 := Aside0.mk t
  clear t
  go_wp2_with fail
  refine (T1.out.Send_good (by decide) aG (by decide)).mono ?_
  rintro e W2 ⟨he, d⟩
  have he2 : e = .returned (.tuple #[.int .i64 1, .int .i64 0]) := he
  subst he2
  have T2 := Aside0.mk (show NetAt W W2 g b 5 1 [(1, aG)] from d.net)
  clear d T1 he
  go_wp2_with fail
  refine (T2.out.Send_good (by decide) aG (by decide)).mono ?_
  rintro e W3 ⟨he, d⟩
  have he2 : e = .returned (.tuple #[.int .i64 2, .int .i64 0]) := he
  subst he2
  have T3 := Aside0.mk (show NetAt W W3 g b 5 2 [(1, aG), (2, aG)] from d.net)
  clear d T2 he
  go_wp2_with fail
  refine (T3.out.Take_any 1 wf1).mono ?_
  rintro e W4 ⟨he, d⟩
  have he2 : e = .returned (.tuple #[.agg #[.int .i64 1, .int .i64 2, .string ⟨#[120]⟩], .int .i64 0]) := he
  subst he2
  have T4 := Aside0.mk (show NetAt W W4 g b 5 2 [(2, aG)] from d.net)
  clear d T3 he
  go_wp2_with fail
  refine ((T4.out.below (below_alloc (Below.refl _ _) _)).Nth_any (by decide) 0 (by decide)).mono ?_
  rintro e W5 ⟨he, hb⟩
  have he2 : e = .returned (.int .i64 2) := he
  subst he2
  have H6 := Aside0.mk (blk_below (heap_alloc_new W4 (.cells #[.int .i64 1, .int .i64 2, .string ⟨#[120]⟩] 41)) hb)
  have T5 := Aside0.mk (T4.out.below (below_step (below_alloc (Below.refl _ _) _) hb))
  clear hb T4 he
  go_wp2_with fail
  refine (T5.out.Twice_any (by decide) 2 wf2).mono ?_
  rintro e W6 ⟨he, d⟩
  have he2 : e = .returned (.tuple #[.int .i64 3, .int .i64 0]) := he
  subst he2
  have T6 := Aside0.mk (show NetAt W W6 g b 5 3 [(2, aG), (3, aG)] from d.net)
  have H7 := Aside0.mk (blk_kept H6.out d.kept (footN_not H6.out (by decide)))
  clear d T5 he H6
  have hs := (show W6.cell? ⟨W4.heap.size, 2, none⟩ = some (.string ⟨#[120]⟩) from blk_cell H7.out 2)
  have hL := T6.out.Len_any
  have HL := Aside0.mk hL
  clear hL
  go_wp2_with (go_at_call 25; refine HL.out.mono ?_; rintro e W7 ⟨rfl, rfl⟩)
  go_ret
  exact ⟨rfl, T6.out.bel⟩
end Go.Proofs.Ytcddajdjmlmpdaa.Print
