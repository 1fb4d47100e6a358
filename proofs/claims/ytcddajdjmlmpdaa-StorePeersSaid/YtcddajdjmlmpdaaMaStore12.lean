/- store: All of a store. -/
import Derived.Test.YtcddajdjmlmpdaaPrK
import Derived.Test.YtcddajdjmlmpdaaMaStore10
import Derived.Test.YtcddajdjmlmpdaaMaStore3
import Derived.Test.YtcddajdjmlmpdaaMaStore4
import Derived.Test.YtcddajdjmlmpdaaMaStore11
import Derived.IntWalk
import Derived.BigQuiet
import Derived.Deep.QuietTactic
import Derived.Deep.RegionLaw
import Derived.Deep.RegionHeld3
import Derived.RegionTactic
import Derived.StillTailTactics
import Derived.Outline
import Derived.Laws.CopyOwn
import Derived.Shelf.GgClosure.Gives
namespace Go.Proofs.Ytcddajdjmlmpdaa.Print
open Go.RowKit Go.Proofs.YtcddajdjmlmpdaaW.PrintWords Go.Proofs.YtcddajdjmlmpdaaW.PrintLast Go.Proofs.YtcddajdjmlmpdaaW.PrintMore
open Go.ChangeMaps (setBlock)
open Go.Maps (Keyed)
set_option linter.unusedVariables false
set_option linter.unusedSimpArgs false

theorem infoEn : (Try.prog.info? 32).map (fun i => (i.zero, i.size, i.bytes)) = some (some (.agg zeroE), 7, 88) := by kernel_rfl
def entsS (m : SMs) : List En := m.map (·.1)
section
variable {w W W2 : World} {g b1 b2 : Nat} {room last : Int} {m : SMs}
set_option maxHeartbeats 3200000 in
set_option maxRecDepth 100000 in
theorem StAt.All_any (h : StAt w W g b1 b2 room last m) (hm : m.length < 1000000) (hl : last < 1000000000) :
    Calls Try.prog 44 #[.pointer (some ⟨g, 0, none⟩)] W fun e W2 => ∃ v, e = .returned v ∧ Kd.R k32 32 W2 W.heap.size (fun _ => True) v (entsS m) ∧ Below W.heap.size W W2 := by
  have H0 := Aside0.mk h
  have HIDS := Aside0.mk (h.all_any hm)
  clear h
  go_enter Try.func44, Try.ntmps44
  go_wp2_with fail
  refine HIDS.out.mono ?_
  rintro e W1 ⟨v, rfl, hr, hb⟩
  obtain ⟨A7, c7, hv⟩ := Kd.R_slice hr
  subst hv
  rw [List.length_map] at hr ⊢
  have HR := Aside0.mk hr
  have HB := Aside0.mk hb
  clear hr hb HIDS
  go_wp2_with fail
  go_loopg [3, 11] (m.length + 1) (fun gg v3 v11 wr => ∃ (i : Nat), v11 = .int .i64 i ∧ Aside0 (i + gg = m.length + 1) ∧ Aside0 (Kd.R k32 32 wr W.heap.size (fun _ => True) v3 (entsS (m.take i))) ∧ Aside0 (Kd.R (Kd.int .i64) 3 wr W.heap.size (fun _ => True) (.slice A7 m.length c7) (m.map (·.1.f0))) ∧ Aside0 (StAt w wr g b1 b2 room last m) ∧ Aside0 (Below W.heap.size W wr))
  case atStart =>
    exact ⟨0, rfl, ⟨by omega⟩, ⟨Kd.R_nil _ _ _ _ _⟩, ⟨HR.out⟩, ⟨H0.out.below HB.out⟩, HB⟩
  case round =>
    obtain ⟨i, rfl, HG, HA, HI, HN, HBW⟩ := hrel
    obtain ⟨A3, c3, hv3⟩ := Kd.R_slice HA.out
    subst hv3
    by_cases hi : i < m.length
    · obtain ⟨gg, rfl⟩ : ∃ z, gk = z + 1 := ⟨gk - 1, by have := HG.out; omega⟩
      have hlt : ((i : Int) < (m.length : Int)) = True := eq_true (by omega)
      obtain ⟨ad, hA, hx⟩ := Kd.at_int (Kd.R_reads' HI.out).2.2 (i : Int) (by omega) (by rw [List.length_map]; omega)
      subst hA
      have hid : rd (m.map (·.1.f0)) (i : Int) = m[i].1.f0 := by
        rw [Go.Proofs.Ytcddajdjmlmpdaa.Pure.rd_lt (m.map (·.1.f0)) i (by rw [List.length_map]; exact hi), List.getElem_map]
      rw [hid, Int.toNat_natCast] at hx
      have hq := H0.out.top _ (List.getElem_mem hi)
      have hwf : (Lit.int .i64 m[i].1.f0).wf = true := Go.WalkArith.wf_i64 (by omega)
      have HGET := Aside0.mk (HN.out.Get_yes m[i].1.f0 hwf m[i] (atS_mem H0.out.rise (List.getElem_mem hi)))
      have HOK := Aside0.mk (H0.out.ok _ (List.getElem_mem hi))
      have hml : (entsS (m.take i)).length = i := by
        unfold entsS
        rw [List.length_map, List.length_take]
        omega
      have HML := Aside0.mk hml
      clear hml
      have HMN := Aside0.mk (show entsS (m.take (i + 1)) = entsS (m.take i) ++ [m[i].1] by
        unfold entsS
        rw [List.take_add_one, List.getElem?_eq_getElem hi, List.map_append]
        rfl)
      generalize m[i].1 = x at hx hwf HGET HOK HMN
      clear hid hq hwf
      go_wp2_with fail
      refine HGET.out.mono ?_
      rintro e W4 ⟨A2, c2, rfl, hr4, hb4⟩
      have HB4 := Aside0.mk hb4
      have HR4 := Aside0.mk hr4
      clear hb4 hr4 HGET
      go_upto_region 6 with fail
      have HX5 := Aside0.mk (heap_alloc_new W4 (.cells (entC x (.slice A2 x.f3.length c2)) 32))
      have hb5 := below_step HB4.out (below_alloc (Below.refl W4.heap.size W4) (.cells (entC x (.slice A2 x.f3.length c2)) 32))
      have HA5 := Aside0.mk (Kd.R_below HA.out hb5)
      have HI5 := Aside0.mk (Kd.R_below HI.out hb5)
      have HN5 := Aside0.mk (HN.out.below hb5)
      have HBW5 := Aside0.mk (below_step HBW.out hb5)
      have HR5 := Aside0.mk (Kd.R_lower (Kd.R_below HR4.out (below_alloc (Below.refl W4.heap.size W4) (.cells (entC x (.slice A2 x.f3.length c2)) 32))) HBW.out.size)
      clear hb5 hx HR4 HB4 HA HI HN HBW
      generalize W4.alloc (.cells (entC x (.slice A2 x.f3.length c2)) 32) = W5 at HX5 HA5 HI5 HN5 HBW5 HR5 ⊢
      have c0_ := (show W5.cell? ⟨W4.heap.size, 0, none⟩ = some (.int .i64 x.f0) from blk_cell HX5.out 0)
      have c1_ := (show W5.cell? ⟨W4.heap.size, 1, none⟩ = some (.int .i64 x.f1) from blk_cell HX5.out 1)
      have c2_ := (show W5.cell? ⟨W4.heap.size, 2, none⟩ = some (.int .i64 x.f2.f0) from blk_cell HX5.out 2)
      have c3_ := (show W5.cell? ⟨W4.heap.size, 3, none⟩ = some (.int .i64 x.f2.f1) from blk_cell HX5.out 3)
      have c4_ := (show W5.cell? ⟨W4.heap.size, 4, none⟩ = some (.string x.f2.f2) from blk_cell HX5.out 4)
      have c5_ := (show W5.cell? ⟨W4.heap.size, 5, none⟩ = some (.slice A2 x.f3.length c2) from blk_cell HX5.out 5)
      have c6_ := (show W5.cell? ⟨W4.heap.size, 6, none⟩ = some (.string x.f4) from blk_cell HX5.out 6)
      go_wp2_with ((with_reducible refine gate_builtin (b := .append) (xs := #[.tmp 21, .tmp 23]) rfl ?_); at_builtin; refine Kd.R_append k32 (w0 := W5) W.heap.size rfl (.tmp 21) (.tmp 23) 72 32 (.agg zeroE) 88 rfl Try.underlying72 infoEn rfl (by decide) (by omega) _ (entsS (m.take i)) x [.int .i64 x.f0, .int .i64 x.f1, .int .i64 x.f2.f0, .int .i64 x.f2.f1, .string x.f2.f2, .slice A2 x.f3.length c2, .string x.f4] (fun _ => True) (fun k => some k = (Value.slice A2 x.f3.length c2).ownBlock) rfl rfl ?aP ?aK ?aF ?aO ?aB ?aS ?aL ?_; (case aP => exact k32_mkM _ _ _ x (Kd.R_tight rfl HR5.out)); (case aK => exact fun k hk => ⟨trivial, fun e1 => by obtain ⟨cs1, hc1⟩ := own_exact HR5.out hk.symm; obtain ⟨cs2, hc2⟩ := own_exact HA5.out e1.symm; rw [hc1] at hc2; injection hc2 with hc2; injection hc2 with _ hc2; exact absurd hc2 (by decide)⟩); (case aB => exact Below.refl _ _); (case aF => exact fun _ _ => trivial); (case aO => exact HA5.out); (case aS => exact HBW5.out.size); (case aL => rw [HML.out]; omega); intro v13 w7 ho hb hg hat; rw [← HMN.out] at ho; have HA7 := Aside0.mk ho; have HI7 := Aside0.mk (ints_grownE HI5.out HA5.out (by decide) hg); have HBW7 := Aside0.mk (HBW5.out.trans hb); have HN7 := Aside0.mk (HN5.out.grownE HA5.out (by decide) hg (below_step H0.out.bel HBW7.out)); clear ho hb hg hat)
      go_roundg gg
      case measure => omega
      case rel => exact ⟨i + 1, by go_num, ⟨by have := HG.out; omega⟩, HA7, HI7, HN7, HBW7⟩
    · have hlt : ((i : Int) < (m.length : Int)) = False := eq_false (by omega)
      have hlt2 : (i < m.length) = False := eq_false hi
      go_wp2_with fail
      go_ret
      refine ⟨_, rfl, ?_, HBW.out⟩
      rw [show entsS m = entsS (m.take i) by rw [List.take_of_length_le (by omega)]]
      exact HA.out
end
end Go.Proofs.Ytcddajdjmlmpdaa.Print
