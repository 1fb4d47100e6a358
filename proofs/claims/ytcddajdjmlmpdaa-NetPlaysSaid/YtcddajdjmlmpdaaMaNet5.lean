/- net: To, List of a net. -/
import Derived.Test.YtcddajdjmlmpdaaPrK
import Derived.Test.YtcddajdjmlmpdaaMaNet1
import Derived.Test.YtcddajdjmlmpdaaMaNet3
import Derived.Test.YtcddajdjmlmpdaaMaNet4
import Derived.Test.YtcddajdjmlmpdaaPureW
import Derived.IntWalk
import Derived.BigQuiet
import Derived.Deep.QuietTactic
import Derived.Deep.RegionLaw
import Derived.Deep.RegionHeld3
import Derived.RegionTactic
import Derived.StillTailTactics
import Derived.Outline
import Derived.Laws.CopyOwn
import Derived.Shelf.GgClosure.Gives
namespace Go.Proofs.Ytcddajdjmlmpdaa.Print
open Go.RowKit Go.Proofs.YtcddajdjmlmpdaaW.PrintWords Go.Proofs.YtcddajdjmlmpdaaW.PrintLast Go.Proofs.YtcddajdjmlmpdaaW.PrintMore
open Go.ChangeMaps (setBlock)
open Go.Maps (Keyed)
set_option linter.unusedVariables false
set_option linter.unusedSimpArgs false

/-- The closure of To. -/
theorem To1_calls (W : World) (x : Gr) (bb : Nat) (node : Int) (hb : W.heap[bb]? = some (.cells #[.int .i64 node] 3 (0, 0))) :
    Calls Try.prog 65 #[.agg #[.int .i64 x.f0, .int .i64 x.f1, .string x.f2], .pointer (some ⟨bb, 0, none⟩)] W fun e W3 => e = .returned (.bool (x.f1 == node)) ∧ Below W.heap.size W W3 := by
  have c0 := (show W.cell? ⟨bb, 0, none⟩ = some (.int .i64 node) from blk_cell hb 0)
  have c1 := (show (W.alloc (.cells #[.int .i64 x.f0, .int .i64 x.f1, .string x.f2] 41)).cell? ⟨bb, 0, none⟩ = some (.int .i64 node) from blk_cell (blk_alloc hb _) 0)
  have hne : ¬ W.heap.size = bb := Ne.symm (Nat.ne_of_lt (blk_lt hb))
  clear hb
  go_enter Try.func65, Try.ntmps65
  go_wp2_with fail
  go_ret
  exact ⟨rfl, by repeat (first | (with_reducible first | exact Below.refl _ _ | apply below_alloc | apply pw_below_drewN | apply below_drew1) | exact Below.refl _ _)⟩
section
variable {w W W2 : World} {g b : Nat} {room last : Int} {m : NMs}
theorem NetAt.To_any (h : NetAt w W g b room last m) (hm : m.length < 1000000) (node : Int) :
    Calls Try.prog 37 #[.pointer (some ⟨g, 0, none⟩), .int .i64 node] W fun e W2 => ∃ v, e = .returned v ∧ Kd.R (Kd.int .i64) 3 W2 W.heap.size (fun _ => True) v (idsN (fun x => x.f1 == node) m) ∧ Below W.heap.size W W2 := by
  have hbx := heap_alloc_new W (.cells #[.int .i64 node] 3)
  have hb1 := below_alloc (Below.refl W.heap.size W) (.cells #[.int .i64 node] 3)
  have H := Aside0.mk ((h.below hb1).ids_any hm 65 #[.pointer (some ⟨W.heap.size, 0, none⟩)] (fun x => x.f1 == node) (enters_of Try.func65 (by kernel_rfl) rfl) (fun W' x hb => To1_calls W' x W.heap.size node (blk_below hbx hb)))
  have HB := Aside0.mk hb1
  clear h hbx hb1
  go_enter Try.func37, Try.ntmps37
  go_wp2_with fail
  refine H.out.mono ?_
  rintro e W2 ⟨v, rfl, hr, hb⟩
  have HR := Aside0.mk hr
  have HB2 := Aside0.mk hb
  clear hr hb
  go_wp2_with fail
  go_ret
  exact ⟨_, rfl, Kd.R_lower HR.out HB.out.size, below_step HB.out HB2.out⟩
/-- Rows are written beside a net. -/
theorem NetAt.grownK {α : Type} {d : Kd α} {e : Nat} {base : Nat} {ok : Nat → Prop} {v : Value} {xs : List α} (h : NetAt w W g b room last m) (hr : Kd.R d e W base ok v xs) (he : ∀ q, q ∈ e :: d.E → q ≠ 110) (hg : W.grownBy W2 v.ownBlock) (hb : Below w.heap.size w W2) : NetAt w W2 g b room last m := by
  refine ⟨(hg.block g (blk_lt h.blk) ?_).trans h.blk, h.map.move (hg.block b h.map.lt ?_), h.ge, h.bge, hb, h.rise, h.top, h.lo⟩
  · intro e1
    obtain ⟨_, _, _, q, hq, cells, hc⟩ := (Kd.R_bound hr).1 g e1.symm
    rw [h.blk] at hc
    injection hc with hc
    injection hc with _ hc
    exact he q hq hc.symm
  · intro e1
    obtain ⟨es, clock, hm⟩ := h.map
    obtain ⟨cells, q, hc⟩ := own_cells hr e1.symm
    rw [hm.blk] at hc
    cases hc
end
theorem ints_grown {α : Type} {d : Kd α} {e : Nat} {base base2 : Nat} {ok ok2 : Nat → Prop} {v v3 : Value} {xs : List Int} {ys : List α} {W W2 : World} (h : Kd.R (Kd.int .i64) 3 W base ok v xs) (hr : Kd.R d e W base2 ok2 v3 ys) (he : ∀ q, q ∈ e :: d.E → q ≠ 3) (hg : W.grownBy W2 v3.ownBlock) : Kd.R (Kd.int .i64) 3 W2 base ok v xs :=
  Kd.R_mono (Kd.R_grown (Kd.R_bound h) hg (fun k hk e1 => by
    obtain ⟨_, _, _, q, hq, cells, hc⟩ := hk
    obtain ⟨_, _, _, q2, hq2, cells2, hc2⟩ := (Kd.R_bound hr).1 k e1.symm
    rw [hc] at hc2
    injection hc2 with hc2
    injection hc2 with _ hc2
    have h1 : q = 3 := by
      rcases List.mem_cons.1 hq with hq | hq
      · exact hq
      · exact absurd hq (by show ¬ (q ∈ ([] : List Nat)); simp)
    exact he q2 hq2 (hc2.symm.trans h1))) (fun _ hk => hk.1)
abbrev Ml := S115
def mailsN (m : NMs) : List Ml := m.map fun p => ⟨p.1, p.2⟩
theorem infoMl : (Try.prog.info? 115).map (fun i => (i.zero, i.size, i.bytes)) = some (some (.agg #[.int .i64 0, .int .i64 0, .int .i64 0, .string ⟨#[]⟩]), 4, 40) := by kernel_rfl
section
variable {w W W2 : World} {g b : Nat} {room last : Int} {m : NMs}
set_option maxHeartbeats 3200000 in
set_option maxRecDepth 100000 in
theorem NetAt.List_any (h : NetAt w W g b room last m) (hm : m.length < 1000000) (hl : last < 1000000000) :
    Calls Try.prog 35 #[.pointer (some ⟨g, 0, none⟩)] W fun e W2 => ∃ v, e = .returned v ∧ Kd.R k115 115 W2 W.heap.size (fun _ => True) v (mailsN m) ∧ Below W.heap.size W W2 := by
  have H0 := Aside0.mk h
  have HIDS := Aside0.mk (h.all_any hm)
  clear h
  go_enter Try.func35, Try.ntmps35
  go_wp2_with fail
  refine HIDS.out.mono ?_
  rintro e W1 ⟨v, rfl, hr, hb⟩
  obtain ⟨A7, c7, hv⟩ := Kd.R_slice hr
  subst hv
  rw [List.length_map] at hr ⊢
  have HR := Aside0.mk hr
  have HB := Aside0.mk hb
  clear hr hb HIDS
  go_wp2_with fail
  go_loopg [3, 9] (m.length + 1) (fun gg v3 v9 wr => ∃ (i : Nat), v9 = .int .i64 i ∧ Aside0 (i + gg = m.length + 1) ∧ Aside0 (Kd.R k115 115 wr W.heap.size (fun _ => True) v3 (mailsN (m.take i))) ∧ Aside0 (Kd.R (Kd.int .i64) 3 wr W.heap.size (fun _ => True) (.slice A7 m.length c7) (m.map (·.1))) ∧ Aside0 (NetAt w wr g b room last m) ∧ Aside0 (Below W.heap.size W wr))
  case atStart =>
    exact ⟨0, rfl, ⟨by omega⟩, ⟨Kd.R_nil _ _ _ _ _⟩, ⟨HR.out⟩, ⟨⟨blk_below H0.out.blk HB.out, H0.out.map.below HB.out, H0.out.ge, H0.out.bge, below_step H0.out.bel HB.out, H0.out.rise, H0.out.top, H0.out.lo⟩⟩, HB⟩
  case round =>
    obtain ⟨i, rfl, HG, HA, HI, HN, HBW⟩ := hrel
    obtain ⟨A3, c3, hv3⟩ := Kd.R_slice HA.out
    subst hv3
    by_cases hi : i < m.length
    · obtain ⟨gg, rfl⟩ : ∃ z, gk = z + 1 := ⟨gk - 1, by have := HG.out; omega⟩
      have hlt : ((i : Int) < (m.length : Int)) = True := eq_true (by omega)
      obtain ⟨ad, hA, hx⟩ := Kd.at_int (Kd.R_reads' HI.out).2.2 (i : Int) (by omega) (by rw [List.length_map]; omega)
      subst hA
      have hid : rd (m.map (·.1)) (i : Int) = m[i].1 := by
        rw [Go.Proofs.Ytcddajdjmlmpdaa.Pure.rd_lt (m.map (·.1)) i (by rw [List.length_map]; exact hi), List.getElem_map]
      rw [hid, Int.toNat_natCast] at hx
      have hq := H0.out.top _ (List.getElem_mem hi)
      have hwf : (Lit.int .i64 m[i].1).wf = true := Go.WalkArith.wf_i64 (by omega)
      have hrun := HN.out.map.lookup_yes intK Try.underlying108 (keyI hwf) (v := .agg #[.int .i64 m[i].2.f0, .int .i64 m[i].2.f1, .string m[i].2.f2]) (List.mem_map.2 ⟨m[i], List.getElem_mem hi, rfl⟩) false
      have k2 := (show wr.cell? ⟨g, 2, none⟩ = some (.map (some b)) from blk_cell HN.out.blk 2)
      generalize hqi : m[i] = q at hx hwf hrun
      have hrun' : (Instr.lookup 108 (.map (some b)) (.int .i64 q.1) false).run Try.prog wr = .ok (.agg #[.int .i64 q.2.f0, .int .i64 q.2.f1, .string q.2.f2]) wr := hrun
      have hml : (mailsN (m.take i)).length = i := by
        unfold mailsN
        rw [List.length_map, List.length_take]
        omega
      have HMN := Aside0.mk (show mailsN (m.take (i + 1)) = mailsN (m.take i) ++ [(⟨q.1, q.2⟩ : Ml)] by
        unfold mailsN
        rw [List.take_add_one, List.getElem?_eq_getElem hi, hqi, List.map_append]
        rfl)
      clear hid hq hrun hqi
      go_wp2_with ((with_reducible refine gate_builtin (b := .append) (xs := #[.tmp 13, .tmp 22]) rfl ?_); at_builtin; refine Kd.R_append k115 (w0 := wr) W.heap.size rfl (.tmp 13) (.tmp 22) 65 115 (.agg #[.int .i64 0, .int .i64 0, .int .i64 0, .string ⟨#[]⟩]) 40 rfl Try.underlying65 infoMl rfl (by decide) (by omega) _ (mailsN (m.take i)) (⟨q.1, q.2⟩ : Ml) [.int .i64 q.1, .int .i64 q.2.f0, .int .i64 q.2.f1, .string q.2.f2] (fun _ => True) (fun _ => False) rfl rfl ?aP (fun _ hk => hk.elim) ?aF ?aO ?aB ?aS ?aL ?_; (case aP => exact k115_mkM _ _ _ (⟨q.1, q.2⟩ : Ml)); (case aB => exact Below.refl _ _); (case aF => exact fun _ _ => trivial); (case aO => exact HA.out); (case aS => exact HBW.out.size); (case aL => rw [hml]; omega); intro v13 w7 ho hb hg hat; rw [← HMN.out] at ho; have HA7 := Aside0.mk ho; have HI7 := Aside0.mk (ints_grown HI.out HA.out (by decide) hg); have HBW7 := Aside0.mk (HBW.out.trans hb); have HN7 := Aside0.mk (HN.out.grownK HA.out (by decide) hg (below_step H0.out.bel HBW7.out)); clear ho hb hg hat)
      go_roundg gg
      case measure => omega
      case rel => exact ⟨i + 1, by go_num, ⟨by have := HG.out; omega⟩, HA7, HI7, HN7, HBW7⟩
    · have hlt : ((i : Int) < (m.length : Int)) = False := eq_false (by omega)
      have hlt2 : (i < m.length) = False := eq_false hi
      go_wp2_with fail
      go_ret
      refine ⟨_, rfl, ?_, HBW.out⟩
      rw [show mailsN m = mailsN (m.take i) by rw [List.take_of_length_le (by omega)]]
      exact HA.out
end
end Go.Proofs.Ytcddajdjmlmpdaa.Print
