/- store: New, own, of. -/
import Derived.Test.YtcddajdjmlmpdaaPrK
import Derived.Test.YtcddajdjmlmpdaaMaNet2
import Derived.Test.YtcddajdjmlmpdaaMaStore2
import Derived.Test.YtcddajdjmlmpdaaMaStore2
import Derived.Test.YtcddajdjmlmpdaaMaNet3
import Derived.IntWalk
import Derived.BigQuiet
import Derived.Deep.QuietTactic
import Derived.Deep.RegionLaw
import Derived.Deep.RegionHeld3
import Derived.RegionTactic
import Derived.StillTailTactics
import Derived.Outline
import Derived.Laws.CopyOwn
namespace Go.Proofs.Ytcddajdjmlmpdaa.Print
open Go.RowKit Go.Proofs.YtcddajdjmlmpdaaW.PrintWords Go.Proofs.YtcddajdjmlmpdaaW.PrintLast Go.Proofs.YtcddajdjmlmpdaaW.PrintMore
open Go.ChangeMaps (setBlock)
open Go.Maps (Keyed)
set_option linter.unusedVariables false
set_option linter.unusedSimpArgs false

abbrev En := S32
/-- The cells of an entry whose row is v. -/
abbrev entC (x : En) (v : Value) : Array Value := #[.int .i64 x.f0, .int .i64 x.f1, .int .i64 x.f2.f0, .int .i64 x.f2.f1, .string x.f2.f2, v, .string x.f4]
abbrev zeroE : Array Value := #[.int .i64 0, .int .i64 0, .int .i64 0, .int .i64 0, .string ⟨#[]⟩, .slice none 0 0, .string ⟨#[]⟩]
theorem info32z : (Try.prog.info? 32).map (·.size) = some 7 := by kernel_rfl
theorem ent_one (a b c d : Int) (s t : ByteArray) (A : Option Addr) (n k : Nat) : #[Value.int .i64 a, .int .i64 b, .int .i64 c, .int .i64 d, .string s, .slice A n k, .string t].all (·.oneCell') = true := by simp [Value.oneCell']
set_option maxHeartbeats 1600000 in
set_option maxRecDepth 100000 in
theorem own_some {W : World} {x : En} {ad : Addr} {c : Nat} (hr : Kd.C (Kd.int .i64) W (some ad) x.f3.length x.f3) (hl : x.f3.length < 1000000) :
    Calls Try.prog 58 #[.agg #[.int .i64 x.f0, .int .i64 x.f1, .int .i64 x.f2.f0, .int .i64 x.f2.f1, .string x.f2.f2, .slice (some ad) x.f3.length c, .string x.f4]] W fun e W2 => ∃ A2 c2, e = .returned (.agg (entC x (.slice A2 x.f3.length c2))) ∧ Kd.R (Kd.int .i64) 3 W2 W.heap.size (fun _ => True) (.slice A2 x.f3.length c2) x.f3 ∧ Below W.heap.size W W2 := by
  have HB1 := Aside0.mk (below_alloc (below_alloc (Below.refl W.heap.size W) (.cells (entC x (.slice (some ad) x.f3.length c)) 32)) (.cells zeroE 32))
  have HX := Aside0.mk (blk_alloc (heap_alloc_new W (.cells (entC x (.slice (some ad) x.f3.length c)) 32)) (.cells zeroE 32))
  have HY := heap_alloc_new (W.alloc (.cells (entC x (.slice (some ad) x.f3.length c)) 32)) (.cells zeroE 32)
  rw [show (W.alloc (.cells (entC x (.slice (some ad) x.f3.length c)) 32)).heap.size = W.heap.size + 1 by simp] at HY
  have HYA := Aside0.mk HY
  have HR := Aside0.mk hr
  clear hr HY
  go_enter Try.func58, Try.ntmps58
  go_upto_region 1 with fail
  generalize (W.alloc (.cells (entC x (.slice (some ad) x.f3.length c)) 32)).alloc (.cells zeroE 32) = W1 at HB1 HX HYA ⊢
  have c5 := (show W1.cell? ⟨W.heap.size, 5, none⟩ = some (.slice (some ad) x.f3.length c) from blk_cell HX.out 5)
  go_wp2_with fail
  refine (Clone_some (Kd.C_below HR.out HB1.out) hl).mono ?_
  rintro e W2 ⟨v, rfl, hr2, hb2⟩
  obtain ⟨A2, c2, rfl⟩ := Kd.R_slice hr2
  have HX2 := Aside0.mk (blk_below HX.out hb2)
  have HY2 := Aside0.mk (blk_below HYA.out hb2)
  have HB2 := Aside0.mk (below_step HB1.out hb2)
  have HR2 := Aside0.mk (Kd.R_bound (Kd.R_lower hr2 HB1.out.size))
  clear hr2 hb2 HB1 HX HYA c5 HR
  have c5 := (show W2.cell? ⟨W.heap.size, 5, none⟩ = some (.slice (some ad) x.f3.length c) from blk_cell HX2.out 5)
  have f5 := (show W2.frozen? ⟨W.heap.size, 5, none⟩ = false from blk_frozen HX2.out 5)
  go_upto_region 2 with fail
  have HX3 := Aside0.mk (blk_put (cs' := entC x (.slice A2 x.f3.length c2)) HX2.out 5 (.slice A2 x.f3.length c2) rfl)
  have HK3 := Aside0.mk (show KeepBut W2 (W2.setCell ⟨W.heap.size, 5, none⟩ (.slice A2 x.f3.length c2)) W.heap.size none from KeepBut.set_ (KeepBut.refl _ _ _) 5 _)
  have HB3 := Aside0.mk (show Below W.heap.size W (W2.setCell ⟨W.heap.size, 5, none⟩ (.slice A2 x.f3.length c2)) from HB2.out.setCell (Nat.le_refl _) _)
  generalize W2.setCell ⟨W.heap.size, 5, none⟩ (.slice A2 x.f3.length c2) = W3 at HX3 HK3 HB3 ⊢
  have HY3 := Aside0.mk (HK3.out.blk HY2.out (by omega) (by simp))
  clear c5 f5
  have c0 := (show W3.cell? ⟨W.heap.size, 0, none⟩ = some (.int .i64 x.f0) from blk_cell HX3.out 0)
  have c1 := (show W3.cell? ⟨W.heap.size, 1, none⟩ = some (.int .i64 x.f1) from blk_cell HX3.out 1)
  have c2_ := (show W3.cell? ⟨W.heap.size, 2, none⟩ = some (.int .i64 x.f2.f0) from blk_cell HX3.out 2)
  have c3 := (show W3.cell? ⟨W.heap.size, 3, none⟩ = some (.int .i64 x.f2.f1) from blk_cell HX3.out 3)
  have c4 := (show W3.cell? ⟨W.heap.size, 4, none⟩ = some (.string x.f2.f2) from blk_cell HX3.out 4)
  have c5 := (show W3.cell? ⟨W.heap.size, 5, none⟩ = some (.slice A2 x.f3.length c2) from blk_cell HX3.out 5)
  have c6 := (show W3.cell? ⟨W.heap.size, 6, none⟩ = some (.string x.f4) from blk_cell HX3.out 6)
  go_wp2_with (refine store_own rfl 32 (.tmp 2) (.tmp 7) rfl (W.heap.size + 1) (entC x (.slice A2 x.f3.length c2)) rfl rfl 32 _ HY3.out info32z rfl (ent_one _ _ _ _ _ _ _ _ _) ?_; intro W5 hW5 hb5 hk5; have H5 := Aside0.mk hW5; have HB5 := Aside0.mk hb5; have HK5 := Aside0.mk hk5; clear hW5 hb5 hk5)
  refine bodyPost_ret (results_cell_row rfl _ _ (W.heap.size + 1) 32 _ (0, 0) _ rfl H5.out Try.underlying32 rfl info32z) rfl ?_
  have hbW := below_weaken HB3.out (Nat.le_succ _) HB5.out
  refine ⟨A2, c2, rfl, ?_, hbW⟩
  have hr3 := Kd.R_keep HR2.out HK3.out (fun k hk e => by
    obtain ⟨_, _, _, q, hq, cells, hc⟩ := hk
    rw [e, HX2.out] at hc
    injection hc with hc
    injection hc with _ hc
    rw [← hc] at hq
    revert hq
    decide)
  have hr3b := Kd.R_bound hr3
  refine Kd.R_mono (Kd.R_keep hr3b HK5.out (fun k hk e => by
    obtain ⟨_, _, _, q, hq, cells, hc⟩ := hk
    rw [e, HY3.out] at hc
    injection hc with hc
    injection hc with _ hc
    rw [← hc] at hq
    revert hq
    decide)) (fun _ _ => trivial)
set_option maxHeartbeats 1600000 in
set_option maxRecDepth 100000 in
theorem own_nil {W : World} {x : En} (hx : x.f3 = []) :
    Calls Try.prog 58 #[.agg #[.int .i64 x.f0, .int .i64 x.f1, .int .i64 x.f2.f0, .int .i64 x.f2.f1, .string x.f2.f2, .slice none 0 0, .string x.f4]] W fun e W2 => e = .returned (.agg (entC x (.slice none 0 0))) ∧ Below W.heap.size W W2 := by
  have HB1 := Aside0.mk (below_alloc (below_alloc (Below.refl W.heap.size W) (.cells (entC x (.slice none 0 0)) 32)) (.cells zeroE 32))
  have HX := Aside0.mk (blk_alloc (heap_alloc_new W (.cells (entC x (.slice none 0 0)) 32)) (.cells zeroE 32))
  have HY := heap_alloc_new (W.alloc (.cells (entC x (.slice none 0 0)) 32)) (.cells zeroE 32)
  rw [show (W.alloc (.cells (entC x (.slice none 0 0)) 32)).heap.size = W.heap.size + 1 by simp] at HY
  have HYA := Aside0.mk HY
  clear HY hx
  go_enter Try.func58, Try.ntmps58
  go_upto_region 1 with fail
  generalize (W.alloc (.cells (entC x (.slice none 0 0)) 32)).alloc (.cells zeroE 32) = W1 at HB1 HX HYA ⊢
  have c5 := (show W1.cell? ⟨W.heap.size, 5, none⟩ = some (.slice none 0 0) from blk_cell HX.out 5)
  have f5 := (show W1.frozen? ⟨W.heap.size, 5, none⟩ = false from blk_frozen HX.out 5)
  go_wp2_with fail
  refine (Clone_nil W1).mono ?_
  rintro e W2 ⟨rfl, rfl⟩
  go_upto_region 2 with fail
  have HX3 := Aside0.mk (blk_put (cs' := entC x (.slice none 0 0)) HX.out 5 (.slice none 0 0) rfl)
  have HK3 := Aside0.mk (show KeepBut W2 (W2.setCell ⟨W.heap.size, 5, none⟩ (.slice none 0 0)) W.heap.size none from KeepBut.set_ (KeepBut.refl _ _ _) 5 _)
  have HB3 := Aside0.mk (show Below W.heap.size W (W2.setCell ⟨W.heap.size, 5, none⟩ (.slice none 0 0)) from HB1.out.setCell (Nat.le_refl _) _)
  generalize W2.setCell ⟨W.heap.size, 5, none⟩ (.slice none 0 0) = W3 at HX3 HK3 HB3 ⊢
  have HY3 := Aside0.mk (HK3.out.blk HYA.out (by omega) (by simp))
  clear c5 f5
  have c0 := (show W3.cell? ⟨W.heap.size, 0, none⟩ = some (.int .i64 x.f0) from blk_cell HX3.out 0)
  have c1 := (show W3.cell? ⟨W.heap.size, 1, none⟩ = some (.int .i64 x.f1) from blk_cell HX3.out 1)
  have c2_ := (show W3.cell? ⟨W.heap.size, 2, none⟩ = some (.int .i64 x.f2.f0) from blk_cell HX3.out 2)
  have c3 := (show W3.cell? ⟨W.heap.size, 3, none⟩ = some (.int .i64 x.f2.f1) from blk_cell HX3.out 3)
  have c4 := (show W3.cell? ⟨W.heap.size, 4, none⟩ = some (.string x.f2.f2) from blk_cell HX3.out 4)
  have c5 := (show W3.cell? ⟨W.heap.size, 5, none⟩ = some (.slice none 0 0) from blk_cell HX3.out 5)
  have c6 := (show W3.cell? ⟨W.heap.size, 6, none⟩ = some (.string x.f4) from blk_cell HX3.out 6)
  go_wp2_with (refine store_own rfl 32 (.tmp 2) (.tmp 7) rfl (W.heap.size + 1) (entC x (.slice none 0 0)) rfl rfl 32 _ HY3.out info32z rfl (ent_one _ _ _ _ _ _ _ _ _) ?_; intro W5 hW5 hb5 hk5; have H5 := Aside0.mk hW5; have HB5 := Aside0.mk hb5; have HK5 := Aside0.mk hk5; clear hW5 hb5 hk5)
  refine bodyPost_ret (results_cell_row rfl _ _ (W.heap.size + 1) 32 _ (0, 0) _ rfl H5.out Try.underlying32 rfl info32z) rfl ?_
  exact ⟨rfl, below_weaken HB3.out (Nat.le_succ _) HB5.out⟩
end Go.Proofs.Ytcddajdjmlmpdaa.Print
