/- store: may; Add. -/
import Derived.Test.YtcddajdjmlmpdaaPrK
import Derived.Test.YtcddajdjmlmpdaaMaGaussMay
import Derived.Test.YtcddajdjmlmpdaaMaMaps1
import Derived.Test.YtcddajdjmlmpdaaMaNet1
import Derived.Test.YtcddajdjmlmpdaaMaNet2
import Derived.Test.YtcddajdjmlmpdaaMaNet3
import Derived.Test.YtcddajdjmlmpdaaMaStore1
import Derived.Test.YtcddajdjmlmpdaaMaStore3
import Derived.Test.YtcddajdjmlmpdaaMaStore4
import Derived.Test.YtcddajdjmlmpdaaMaStore5
import Derived.Test.YtcddajdjmlmpdaaPr56
import Derived.Test.YtcddajdjmlmpdaaPr57
import Derived.Test.YtcddajdjmlmpdaaMaStore5
import Derived.Test.YtcddajdjmlmpdaaPr56
import Derived.Test.YtcddajdjmlmpdaaMaGaussMay
import Derived.IntWalk
import Derived.BigQuiet
import Derived.Deep.QuietTactic
import Derived.Deep.RegionLaw
import Derived.Deep.RegionHeld3
import Derived.RegionTactic
import Derived.StillTailTactics
import Derived.Outline
import Derived.Laws.CopyOwn
namespace Go.Proofs.Ytcddajdjmlmpdaa.Print
open Go.RowKit Go.Proofs.YtcddajdjmlmpdaaW.PrintWords Go.Proofs.YtcddajdjmlmpdaaW.PrintLast Go.Proofs.YtcddajdjmlmpdaaW.PrintMore
open Go.ChangeMaps (setBlock)
open Go.Maps (Keyed)
set_option linter.unusedVariables false
set_option linter.unusedSimpArgs false

/-- May an entry be kept? -/
def mayE (x : En) : Bool := decide (1 ≤ x.f1 ∧ x.f1 ≤ 15) && (decide (0 < x.f3.length) && (mayRowB 160 x.f3 && (decide (x.f4.toList ≠ []) && decide (x.f4.size ≤ 64))))
theorem may_f (x : En) : store_may.f x.f0 x.f1 x.f2.f0 x.f2.f1 x.f2.f2 x.f3 x.f4 = some (mayE x) := by
  unfold store_may.f mayE
  by_cases h1 : x.f1 ≥ 1
  · by_cases h2 : x.f1 ≤ 15
    · by_cases h3 : (x.f3.length : Int) > 0
      · rw [if_pos h1, if_pos h2, if_pos h3, decide_eq_true (show 1 ≤ x.f1 ∧ x.f1 ≤ 15 from ⟨h1, h2⟩), decide_eq_true (show 0 < x.f3.length by omega)]
        have hm : gauss_May.f 160 [x.f3] = some (mayRowB 160 x.f3) := by simp [gauss_May.f, gauss_May.b]
        rw [hm]
        simp only [Option.bind_some, Bool.true_and]
        cases hr : mayRowB 160 x.f3 with
        | false => simp
        | true =>
          simp only [if_true, Bool.true_and]
          by_cases h4 : x.f4.toList = []
          · rw [if_pos h4]
            simp [h4]
          · rw [if_neg h4]
            simp [h4]
            omega
      · rw [if_pos h1, if_pos h2, if_neg h3, decide_eq_false (show ¬ 0 < x.f3.length by omega)]
        simp
    · rw [if_pos h1, if_neg h2, decide_eq_false (show ¬ (1 ≤ x.f1 ∧ x.f1 ≤ 15) by omega)]
      rfl
  · rw [if_neg h1, decide_eq_false (show ¬ (1 ≤ x.f1 ∧ x.f1 ≤ 15) by omega)]
    rfl
theorem mayS {W : World} {A : Option Addr} {c : Nat} (x : En) (hr : Kd.C (Kd.int .i64) W A x.f3.length x.f3) (hc : x.f3.length ≤ c) :
    Calls Try.prog 56 #[.agg #[.int .i64 x.f0, .int .i64 x.f1, .int .i64 x.f2.f0, .int .i64 x.f2.f1, .string x.f2.f2, .slice A x.f3.length c, .string x.f4]] W fun e W2 => e = .returned (.bool (mayE x)) ∧ Below W.heap.size W W2 :=
  store_may.calls x.f0 x.f1 x.f2.f0 x.f2.f1 x.f2.f2 (fun k => k < W.heap.size) A c x.f3 x.f4 _ W (Kd.V_mk hc (Kd.C_F (Kd.heap_int _) hr)) (may_f x)
/-- The same key? -/
def sameK (x y : En) : Bool := decide (x.f1 = y.f1 ∧ x.f2.f0 = y.f2.f0 ∧ x.f2.f1 = y.f2.f1 ∧ x.f2.f2 = y.f2.f2)
theorem keyV_inj {x y : En} (h : keyV x = keyV y) : sameK x y = true := by
  unfold sameK
  simp only [keyV] at h
  injection h with h
  simp at h
  simp [h]
theorem keyV_same {x y : En} (h : sameK x y = true) : keyV x = keyV y := by
  have := of_decide_eq_true h
  simp [keyV, this]
def thereS (m : SMs) (x : En) : Bool := m.any fun p => sameK p.1 x
theorem thereS_no {m : SMs} {x : En} (h : thereS m x = false) : ∀ p ∈ entK m, p.1 ≠ keyV x := by
  intro p hp e
  obtain ⟨q, hq, rfl⟩ := List.mem_map.1 hp
  have h1 := List.any_eq_false.1 h q hq
  exact h1 (keyV_inj e)
theorem thereS_yes {m : SMs} {x : En} (h : thereS m x = true) : ∃ v : Int, (keyV x, Value.int .i64 v) ∈ entK m := by
  obtain ⟨q, hq, h1⟩ := List.any_eq_true.1 h
  exact ⟨q.1.f0, by rw [← keyV_same h1]; exact List.mem_map.2 ⟨q, hq, rfl⟩⟩
/-- A row that is none of these three blocks. -/
def RowAp (W : World) (g b1 b2 : Nat) (A : Option Addr) (l : List Int) : Prop := ∀ W' : World, (∀ k, k < W.heap.size → k ≠ g → k ≠ b1 → k ≠ b2 → W'.heap[k]? = W.heap[k]?) → Kd.C (Kd.int .i64) W' A l.length l
section
variable {w W W2 : World} {g b1 b2 : Nat} {room last : Int} {m : SMs}
theorem RowAp.now {A : Option Addr} {l : List Int} (h : RowAp W g b1 b2 A l) (hb : Below W.heap.size W W2) : Kd.C (Kd.int .i64) W2 A l.length l := h W2 (fun k hk _ _ _ => hb.block k hk)
theorem RowAp.old {A : Option Addr} {l : List Int} (h : Kd.C (Kd.int .i64) w A l.length l) (p : StAt w W g b1 b2 room last m) : RowAp W g b1 b2 A l := fun W' hW => (Kd.heap_int .i64).C (fun k hk => by
  have h1 := p.ge
  have h2 := p.b1ge
  have h3 := p.b2ge
  have h4 := p.bel.size
  exact (hW k (by omega) (by omega) (by omega) (by omega)).trans (p.bel.block k hk)) h
theorem RowAp.mine {v : Value} {base : Nat} {ok : Nat → Prop} {l : List Int} (h : Kd.R (Kd.int .i64) 3 W base ok v l) (p : StAt w W g b1 b2 room last m) {A : Option Addr} {n c : Nat} (hv : v = .slice A n c) : RowAp W g b1 b2 A l := fun W' hW => by
  have h2 := Kd.R_move (Kd.R_bound h) (w1 := W') (fun k hk => by
    obtain ⟨_, _, hlt, q, hq, cells, hc⟩ := hk
    refine hW k hlt (fun e => ?_) (fun e => ?_) (fun e => ?_)
    · rw [e, p.blk] at hc
      injection hc with hc
      injection hc with _ hc
      rw [← hc] at hq
      revert hq
      decide
    · obtain ⟨es, clock, hm⟩ := p.map
      rw [e, hm.blk] at hc
      cases hc
    · obtain ⟨es, clock, hm⟩ := p.keys
      rw [e, hm.blk] at hc
      cases hc)
  rw [hv] at h2
  exact (Kd.R_reads' h2).2.2
set_option maxHeartbeats 1600000 in
set_option maxRecDepth 100000 in
theorem AddS_nil {A : Option Addr} {c : Nat} (x : En) (W : World) : Calls Try.prog 14 #[.pointer none, .agg #[.int .i64 x.f0, .int .i64 x.f1, .int .i64 x.f2.f0, .int .i64 x.f2.f1, .string x.f2.f2, .slice A x.f3.length c, .string x.f4]] W fun e W2 => e = .returned (.tuple #[.int .i64 0, .int .i64 1]) ∧ Below W.heap.size W W2 := by
  go_enter Try.func14, Try.ntmps14
  go_wp2_with fail
  go_ret2
  exact ⟨rfl, below_alloc (Below.refl _ _) _⟩
set_option maxHeartbeats 1600000 in
set_option maxRecDepth 100000 in
theorem StAt.Add_bad (h : StAt w W g b1 b2 room last m) {A : Option Addr} {c : Nat} (x : En) (hr : RowAp W g b1 b2 A x.f3) (hc : x.f3.length ≤ c) (hm : mayE x = false) :
    Calls Try.prog 14 #[.pointer (some ⟨g, 0, none⟩), .agg #[.int .i64 x.f0, .int .i64 x.f1, .int .i64 x.f2.f0, .int .i64 x.f2.f1, .string x.f2.f2, .slice A x.f3.length c, .string x.f4]] W fun e W2 => e = .returned (.tuple #[.int .i64 0, .int .i64 1]) ∧ Below W.heap.size W W2 := by
  have HB := Aside0.mk (below_alloc (Below.refl W.heap.size W) (.cells (entC x (.slice A x.f3.length c)) 32))
  have hmy := mayS x (hr.now HB.out) hc
  rw [hm] at hmy
  have HM := Aside0.mk hmy
  clear hmy hr h
  go_enter Try.func14, Try.ntmps14
  go_wp2_with fail
  refine HM.out.mono ?_
  rintro e W2 ⟨rfl, hb⟩
  have HB2 := Aside0.mk (below_step HB.out hb)
  clear hb
  go_wp2_with fail
  go_ret2
  exact ⟨rfl, HB2.out⟩
theorem ints_move {e base : Nat} {ok : Nat → Prop} {v : Value} {xs : List Int} (h : Kd.R (Kd.int .i64) 3 W base ok v xs) (hk : ∀ (k : Nat) (cells : Array Value), W.heap[k]? = some (.cells cells 3 (0, 0)) → W2.heap[k]? = W.heap[k]?) : Kd.R (Kd.int .i64) 3 W2 base ok v xs :=
  Kd.R_mono (Kd.R_move (Kd.R_bound h) (fun k hk1 => by
    obtain ⟨_, _, _, q, hq, cells, hc⟩ := hk1
    have h1 : q = 3 := by
      rcases List.mem_cons.1 hq with hq | hq
      · exact hq
      · exact absurd hq (by show ¬ (q ∈ ([] : List Nat)); simp)
    exact hk k cells (h1 ▸ hc))) (fun _ hk => hk.1)
theorem zeroI (w : World) : (zeroValue 3).run Try.prog w = .ok (.int .i64 0) w := by kernel_rfl
set_option maxHeartbeats 3200000 in
set_option maxRecDepth 100000 in
theorem StAt.Add_there (h : StAt w W g b1 b2 room last m) {A : Option Addr} {c : Nat} (x : En) (hr : RowAp W g b1 b2 A x.f3) (hc : x.f3.length ≤ c) (hm : mayE x = true) (hk : EnOk x) (ht : thereS m x = true) :
    Calls Try.prog 14 #[.pointer (some ⟨g, 0, none⟩), .agg #[.int .i64 x.f0, .int .i64 x.f1, .int .i64 x.f2.f0, .int .i64 x.f2.f1, .string x.f2.f2, .slice A x.f3.length c, .string x.f4]] W fun e W2 => e = .returned (.tuple #[.int .i64 0, .int .i64 5]) ∧ Below W.heap.size W W2 := by
  have HB := Aside0.mk (below_alloc (Below.refl W.heap.size W) (.cells (entC x (.slice A x.f3.length c)) 32))
  have HX := Aside0.mk (heap_alloc_new W (.cells (entC x (.slice A x.f3.length c)) 32))
  have hmy := mayS x (hr.now HB.out) hc
  rw [hm] at hmy
  have HM := Aside0.mk hmy
  have H0 := Aside0.mk h
  have HR := Aside0.mk hr
  have HCC := Aside0.mk hc
  have HK := Aside0.mk hk
  clear hmy hr h hk hm
  go_enter Try.func14, Try.ntmps14
  go_wp2_with fail
  refine HM.out.mono ?_
  rintro e W2 ⟨rfl, hb⟩
  have HB2 := Aside0.mk (below_step HB.out hb)
  have HX2 := Aside0.mk (blk_below HX.out hb)
  have H2 := Aside0.mk (H0.out.below HB2.out)
  clear hb HB HX HM
  have k3 := (show W2.cell? ⟨g, 3, none⟩ = some (.map (some b2)) from blk_cell H2.out.blk 3)
  have c0 := (show W2.cell? ⟨W.heap.size, 0, none⟩ = some (.int .i64 x.f0) from blk_cell HX2.out 0)
  have c1 := (show W2.cell? ⟨W.heap.size, 1, none⟩ = some (.int .i64 x.f1) from blk_cell HX2.out 1)
  have c2 := (show W2.cell? ⟨W.heap.size, 2, none⟩ = some (.int .i64 x.f2.f0) from blk_cell HX2.out 2)
  have c3 := (show W2.cell? ⟨W.heap.size, 3, none⟩ = some (.int .i64 x.f2.f1) from blk_cell HX2.out 3)
  have c4 := (show W2.cell? ⟨W.heap.size, 4, none⟩ = some (.string x.f2.f2) from blk_cell HX2.out 4)
  have c5 := (show W2.cell? ⟨W.heap.size, 5, none⟩ = some (.slice A x.f3.length c) from blk_cell HX2.out 5)
  have c6 := (show W2.cell? ⟨W.heap.size, 6, none⟩ = some (.string x.f4) from blk_cell HX2.out 6)
  obtain ⟨lk, hlk⟩ := EnOk.key HK.out
  have HLK := Aside0.mk hlk
  clear hlk
  obtain ⟨v, hv⟩ := thereS_yes ht
  have HV := Aside0.mk hv
  clear hv ht
  go_upto_region 3 with fail
  go_region_law (refine goes_ Try.func57 (by kernel_rfl) rfl #[.agg #[.int .i64 x.f0, .int .i64 x.f1, .int .i64 x.f2.f0, .int .i64 x.f2.f1, .string x.f2.f2, .slice A x.f3.length c, .string x.f4]] (by rfl) rfl rfl (by (try simp only [List.map_toArray, List.map_cons, List.map_nil]); first | done | rfl) ?_; refine (store_of.calls x.f0 x.f1 x.f2.f0 x.f2.f1 x.f2.f2 A c x.f3 x.f4 x.f1 x.f2.f0 x.f2.f1 x.f2.f2 _ (HR.out.now (below_step HB2.out (by repeat (first | (with_reducible first | exact Below.refl _ _ | apply below_alloc | apply pw_below_drewN | apply below_drew1) | exact Below.refl _ _)))) HCC.out rfl).mono ?_; rintro e w7 ⟨rfl, hb7⟩; refine ⟨_, rfl, ?_⟩; have hbb := (below_step (by repeat (first | (with_reducible first | exact Below.refl _ _ | apply below_alloc | apply pw_below_drewN | apply below_drew1) | exact Below.refl _ _)) hb7 : Below W2.heap.size W2 w7); have HB7 := Aside0.mk hbb; have k3 := (show w7.cell? ⟨g, 3, none⟩ = some (.map (some b2)) from blk_cell (blk_below H2.out.blk hbb) 3); have hl7 : (Instr.lookup 99 (.map (some b2)) (.agg #[.int .i64 x.f1, .int .i64 x.f2.f0, .int .i64 x.f2.f1, .string x.f2.f2]) true).run Try.prog w7 = .ok (.tuple #[.int .i64 v, .bool true]) w7 := (H2.out.keys.below hbb).lookup_yes keyedK Try.underlying99 HLK.out HV.out true; clear hb7 hbb)
  all_goals
    go_wp2_with fail
    go_ret2
    exact ⟨rfl, below_step HB2.out HB7.out⟩
set_option maxHeartbeats 3200000 in
set_option maxRecDepth 100000 in
theorem StAt.Add_full (h : StAt w W g b1 b2 room last m) {A : Option Addr} {c : Nat} (x : En) (hr : RowAp W g b1 b2 A x.f3) (hc : x.f3.length ≤ c) (hm : mayE x = true) (hk : EnOk x) (ht : thereS m x = false) (hf : room ≤ (m.length : Int)) :
    Calls Try.prog 14 #[.pointer (some ⟨g, 0, none⟩), .agg #[.int .i64 x.f0, .int .i64 x.f1, .int .i64 x.f2.f0, .int .i64 x.f2.f1, .string x.f2.f2, .slice A x.f3.length c, .string x.f4]] W fun e W2 => e = .returned (.tuple #[.int .i64 0, .int .i64 6]) ∧ Below W.heap.size W W2 := by
  have HB := Aside0.mk (below_alloc (Below.refl W.heap.size W) (.cells (entC x (.slice A x.f3.length c)) 32))
  have HX := Aside0.mk (heap_alloc_new W (.cells (entC x (.slice A x.f3.length c)) 32))
  have hmy := mayS x (hr.now HB.out) hc
  rw [hm] at hmy
  have HM := Aside0.mk hmy
  have H0 := Aside0.mk h
  have HR := Aside0.mk hr
  have HCC := Aside0.mk hc
  have HK := Aside0.mk hk
  clear hmy hr h hk hm
  go_enter Try.func14, Try.ntmps14
  go_wp2_with fail
  refine HM.out.mono ?_
  rintro e W2 ⟨rfl, hb⟩
  have HB2 := Aside0.mk (below_step HB.out hb)
  have HX2 := Aside0.mk (blk_below HX.out hb)
  have H2 := Aside0.mk (H0.out.below HB2.out)
  clear hb HB HX HM
  have k3 := (show W2.cell? ⟨g, 3, none⟩ = some (.map (some b2)) from blk_cell H2.out.blk 3)
  have c0 := (show W2.cell? ⟨W.heap.size, 0, none⟩ = some (.int .i64 x.f0) from blk_cell HX2.out 0)
  have c1 := (show W2.cell? ⟨W.heap.size, 1, none⟩ = some (.int .i64 x.f1) from blk_cell HX2.out 1)
  have c2 := (show W2.cell? ⟨W.heap.size, 2, none⟩ = some (.int .i64 x.f2.f0) from blk_cell HX2.out 2)
  have c3 := (show W2.cell? ⟨W.heap.size, 3, none⟩ = some (.int .i64 x.f2.f1) from blk_cell HX2.out 3)
  have c4 := (show W2.cell? ⟨W.heap.size, 4, none⟩ = some (.string x.f2.f2) from blk_cell HX2.out 4)
  have c5 := (show W2.cell? ⟨W.heap.size, 5, none⟩ = some (.slice A x.f3.length c) from blk_cell HX2.out 5)
  have c6 := (show W2.cell? ⟨W.heap.size, 6, none⟩ = some (.string x.f4) from blk_cell HX2.out 6)
  obtain ⟨lk, hlk⟩ := EnOk.key HK.out
  have HLK := Aside0.mk hlk
  clear hlk
  have HN := Aside0.mk (thereS_no ht)
  clear ht
  go_upto_region 3 with fail
  go_region_law (refine goes_ Try.func57 (by kernel_rfl) rfl #[.agg #[.int .i64 x.f0, .int .i64 x.f1, .int .i64 x.f2.f0, .int .i64 x.f2.f1, .string x.f2.f2, .slice A x.f3.length c, .string x.f4]] (by rfl) rfl rfl (by (try simp only [List.map_toArray, List.map_cons, List.map_nil]); first | done | rfl) ?_; refine (store_of.calls x.f0 x.f1 x.f2.f0 x.f2.f1 x.f2.f2 A c x.f3 x.f4 x.f1 x.f2.f0 x.f2.f1 x.f2.f2 _ (HR.out.now (below_step HB2.out (by repeat (first | (with_reducible first | exact Below.refl _ _ | apply below_alloc | apply pw_below_drewN | apply below_drew1) | exact Below.refl _ _)))) HCC.out rfl).mono ?_; rintro e w7 ⟨rfl, hb7⟩; refine ⟨_, rfl, ?_⟩; have hbb := (below_step (by repeat (first | (with_reducible first | exact Below.refl _ _ | apply below_alloc | apply pw_below_drewN | apply below_drew1) | exact Below.refl _ _)) hb7 : Below W2.heap.size W2 w7); have HB7 := Aside0.mk hbb; have k3 := (show w7.cell? ⟨g, 3, none⟩ = some (.map (some b2)) from blk_cell (blk_below H2.out.blk hbb) 3); have hl7 : (Instr.lookup 99 (.map (some b2)) (.agg #[.int .i64 x.f1, .int .i64 x.f2.f0, .int .i64 x.f2.f1, .string x.f2.f2]) true).run Try.prog w7 = .ok (.tuple #[.int .i64 0, .bool false]) w7 := (H2.out.keys.below hbb).lookup_no keyedK Try.underlying99 (zeroI w7) HLK.out HN.out true; clear hb7 hbb)
  all_goals
    go_upto_region 6 with fail
    have H7 := Aside0.mk (H2.out.below HB7.out)
    have HX7 := Aside0.mk (blk_below HX2.out HB7.out)
    have HB7W := Aside0.mk (below_step HB2.out HB7.out)
    clear k3 c0 c1 c2 c3 c4 c5 c6 HB7 HB2 HX2 H2 hl7
    have k0 := (show w7.cell? ⟨g, 0, none⟩ = some (.int .i64 room) from blk_cell H7.out.blk 0)
    have k2 := (show w7.cell? ⟨g, 2, none⟩ = some (.map (some b1)) from blk_cell H7.out.blk 2)
    have hlen := fun n => H7.out.lenAt n
    have hle : (room ≤ (m.length : Int)) = True := eq_true hf
    clear hf
    go_quiet (fail)
    go_wp2_with fail
    go_ret2
    exact ⟨rfl, pw_below_drewN HB7W.out nq⟩
set_option maxHeartbeats 3200000 in
set_option maxRecDepth 100000 in
theorem StAt.Add_ok (h : StAt w W g b1 b2 room last m) {A : Option Addr} {c : Nat} (x : En) (hr : RowAp W g b1 b2 A x.f3) (hc : x.f3.length ≤ c) (hm : mayE x = true) (hk : EnOk x) (ht : thereS m x = false) (hf : (m.length : Int) < room) (hl : last < 1000000000) :
    Calls Try.prog 14 #[.pointer (some ⟨g, 0, none⟩), .agg #[.int .i64 x.f0, .int .i64 x.f1, .int .i64 x.f2.f0, .int .i64 x.f2.f1, .string x.f2.f2, .slice A x.f3.length c, .string x.f4]] W fun e W2 => ∃ v, e = .returned (.tuple #[.int .i64 (last + 1), .int .i64 0]) ∧ StDid w W W2 g b1 b2 room (last + 1) (m ++ [({ x with f0 := last + 1 }, v)]) := by
  have HB := Aside0.mk (below_alloc (Below.refl W.heap.size W) (.cells (entC x (.slice A x.f3.length c)) 32))
  have HX := Aside0.mk (heap_alloc_new W (.cells (entC x (.slice A x.f3.length c)) 32))
  have hmy := mayS x (hr.now HB.out) hc
  rw [hm] at hmy
  have HM := Aside0.mk hmy
  have H0 := Aside0.mk h
  have HR := Aside0.mk hr
  have HCC := Aside0.mk hc
  have HK := Aside0.mk hk
  clear hmy hr h hk hm
  go_enter Try.func14, Try.ntmps14
  go_wp2_with fail
  refine HM.out.mono ?_
  rintro e W2 ⟨rfl, hb⟩
  have HB2 := Aside0.mk (below_step HB.out hb)
  have HX2 := Aside0.mk (blk_below HX.out hb)
  have H2 := Aside0.mk (H0.out.below HB2.out)
  clear hb HB HX HM
  have k3 := (show W2.cell? ⟨g, 3, none⟩ = some (.map (some b2)) from blk_cell H2.out.blk 3)
  have c0 := (show W2.cell? ⟨W.heap.size, 0, none⟩ = some (.int .i64 x.f0) from blk_cell HX2.out 0)
  have c1 := (show W2.cell? ⟨W.heap.size, 1, none⟩ = some (.int .i64 x.f1) from blk_cell HX2.out 1)
  have c2 := (show W2.cell? ⟨W.heap.size, 2, none⟩ = some (.int .i64 x.f2.f0) from blk_cell HX2.out 2)
  have c3 := (show W2.cell? ⟨W.heap.size, 3, none⟩ = some (.int .i64 x.f2.f1) from blk_cell HX2.out 3)
  have c4 := (show W2.cell? ⟨W.heap.size, 4, none⟩ = some (.string x.f2.f2) from blk_cell HX2.out 4)
  have c5 := (show W2.cell? ⟨W.heap.size, 5, none⟩ = some (.slice A x.f3.length c) from blk_cell HX2.out 5)
  have c6 := (show W2.cell? ⟨W.heap.size, 6, none⟩ = some (.string x.f4) from blk_cell HX2.out 6)
  obtain ⟨lk, hlk⟩ := EnOk.key HK.out
  have HLK := Aside0.mk hlk
  clear hlk
  have HN := Aside0.mk (thereS_no ht)
  clear ht
  go_upto_region 3 with fail
  go_region_law (refine goes_ Try.func57 (by kernel_rfl) rfl #[.agg #[.int .i64 x.f0, .int .i64 x.f1, .int .i64 x.f2.f0, .int .i64 x.f2.f1, .string x.f2.f2, .slice A x.f3.length c, .string x.f4]] (by rfl) rfl rfl (by (try simp only [List.map_toArray, List.map_cons, List.map_nil]); first | done | rfl) ?_; refine (store_of.calls x.f0 x.f1 x.f2.f0 x.f2.f1 x.f2.f2 A c x.f3 x.f4 x.f1 x.f2.f0 x.f2.f1 x.f2.f2 _ (HR.out.now (below_step HB2.out (by repeat (first | (with_reducible first | exact Below.refl _ _ | apply below_alloc | apply pw_below_drewN | apply below_drew1) | exact Below.refl _ _)))) HCC.out rfl).mono ?_; rintro e w7 ⟨rfl, hb7⟩; refine ⟨_, rfl, ?_⟩; have hbb := (below_step (by repeat (first | (with_reducible first | exact Below.refl _ _ | apply below_alloc | apply pw_below_drewN | apply below_drew1) | exact Below.refl _ _)) hb7 : Below W2.heap.size W2 w7); have HB7 := Aside0.mk hbb; have k3 := (show w7.cell? ⟨g, 3, none⟩ = some (.map (some b2)) from blk_cell (blk_below H2.out.blk hbb) 3); have hl7 : (Instr.lookup 99 (.map (some b2)) (.agg #[.int .i64 x.f1, .int .i64 x.f2.f0, .int .i64 x.f2.f1, .string x.f2.f2]) true).run Try.prog w7 = .ok (.tuple #[.int .i64 0, .bool false]) w7 := (H2.out.keys.below hbb).lookup_no keyedK Try.underlying99 (zeroI w7) HLK.out HN.out true; clear hb7 hbb)
  all_goals
    go_upto_region 6 with fail
    have H7 := Aside0.mk (H2.out.below HB7.out)
    have HX7 := Aside0.mk (blk_below HX2.out HB7.out)
    have HB7W := Aside0.mk (below_step HB2.out HB7.out)
    clear k3 c0 c1 c2 c3 c4 c5 c6 HB7 HB2 HX2 H2 hl7
    have k0 := (show w7.cell? ⟨g, 0, none⟩ = some (.int .i64 room) from blk_cell H7.out.blk 0)
    have k2 := (show w7.cell? ⟨g, 2, none⟩ = some (.map (some b1)) from blk_cell H7.out.blk 2)
    have hlen := fun n => H7.out.lenAt n
    have hle : (room ≤ (m.length : Int)) = False := eq_false (by omega)
    go_quiet (fail)
    go_upto_region 8 with fail
    have H8 := Aside0.mk (H7.out.below (pw_below_drewN (Below.refl _ _) nq))
    have HX8 := Aside0.mk (blk_drewN HX7.out nq)
    have HB8 := Aside0.mk (pw_below_drewN HB7W.out nq)
    generalize w7.drewN nq = W8 at H8 HX8 HB8 ⊢
    clear k0 k2 hlen H7 HX7 HB7W hle
    have hlo := H8.out.lo
    have hov : IntKind.i64.wrap (last + 1) = last + 1 := IntWalk.i64_in _ (by omega)
    have k1 := (show W8.cell? ⟨g, 1, none⟩ = some (.int .i64 last) from blk_cell H8.out.blk 1)
    have f1 := (show W8.frozen? ⟨g, 1, none⟩ = false from blk_frozen H8.out.blk 1)
    have HNX := Aside0.mk (show W.heap.size ≠ g from Ne.symm (Nat.ne_of_lt (blk_lt H0.out.blk)))
    have HN1 := Aside0.mk (show b1 ≠ W.heap.size from Nat.ne_of_lt H0.out.map.lt)
    have HN2 := Aside0.mk (show b2 ≠ W.heap.size from Nat.ne_of_lt H0.out.keys.lt)
    have HWS := Aside0.mk H0.out.bel.size
    go_upto_region 9 with fail
    have HG9 := Aside0.mk (blk_put (cs' := #[.int .i64 room, .int .i64 (last + 1), .map (some b1), .map (some b2)]) H8.out.blk 1 (.int .i64 (last + 1)) rfl)
    have HK9 := Aside0.mk (show KeepBut W8 (W8.setCell ⟨g, 1, none⟩ (.int .i64 (last + 1))) g none from KeepBut.set_ (KeepBut.refl _ _ _) 1 _)
    have HBL9 := Aside0.mk (show Below w.heap.size w (W8.setCell ⟨g, 1, none⟩ (.int .i64 (last + 1))) from H8.out.bel.setCell H8.out.ge (.int .i64 (last + 1)))
    generalize W8.setCell ⟨g, 1, none⟩ (.int .i64 (last + 1)) = W9 at HG9 HK9 HBL9 ⊢
    have HX9 := Aside0.mk (HK9.out.blk HX8.out HNX.out (by simp))
    have HC9 := Aside0.mk (fun k (hk : k < W.heap.size) (h1 : k ≠ g) => (show W9.heap[k]? = W.heap[k]? from (HK9.out.2 k (Nat.lt_of_lt_of_le hk HB8.out.size) h1 (by simp)).trans (HB8.out.block k hk)))
    have HM9 := Aside0.mk (H8.out.map.keep HK9.out (Ne.symm H0.out.ne1))
    have HY9 := Aside0.mk (H8.out.keys.keep HK9.out (Ne.symm H0.out.ne2))
    have HS9 := Aside0.mk (Nat.le_trans HB8.out.size HK9.out.1)
    clear k1 f1 HX8 HK9 H8 HB8
    obtain ⟨ad, hA⟩ : ∃ ad, A = some ad := by
      obtain ⟨ad, e, _⟩ := (HR.out W (fun _ _ _ _ _ => rfl)).2.2 HK.out.l.1
      exact ⟨ad, e⟩
    subst hA
    have d0 := (show W9.cell? ⟨W.heap.size, 0, none⟩ = some (.int .i64 x.f0) from blk_cell HX9.out 0)
    have d1 := (show W9.cell? ⟨W.heap.size, 1, none⟩ = some (.int .i64 x.f1) from blk_cell HX9.out 1)
    have d2 := (show W9.cell? ⟨W.heap.size, 2, none⟩ = some (.int .i64 x.f2.f0) from blk_cell HX9.out 2)
    have d3 := (show W9.cell? ⟨W.heap.size, 3, none⟩ = some (.int .i64 x.f2.f1) from blk_cell HX9.out 3)
    have d4 := (show W9.cell? ⟨W.heap.size, 4, none⟩ = some (.string x.f2.f2) from blk_cell HX9.out 4)
    have d5 := (show W9.cell? ⟨W.heap.size, 5, none⟩ = some (.slice (some ad) x.f3.length c) from blk_cell HX9.out 5)
    have d6 := (show W9.cell? ⟨W.heap.size, 6, none⟩ = some (.string x.f4) from blk_cell HX9.out 6)
    go_wp2_with fail
    refine (own_some (HR.out W9 (fun k hk hg _ _ => HC9.out k hk hg)) HK.out.l.2).mono ?_
    rintro e W10 ⟨A2, c2, rfl, hr10, hb10⟩
    have HX10 := Aside0.mk (blk_below HX9.out hb10)
    have HG10 := Aside0.mk (blk_below HG9.out hb10)
    have HM10 := Aside0.mk (HM9.out.below hb10)
    have HY10 := Aside0.mk (HY9.out.below hb10)
    have HR10 := Aside0.mk (Kd.R_bound hr10)
    have HBL10 := Aside0.mk (below_step HBL9.out hb10)
    have HC10 := Aside0.mk (fun k (hk : k < W.heap.size) (h1 : k ≠ g) => (hb10.block k (Nat.lt_of_lt_of_le hk HS9.out)).trans (HC9.out k hk h1))
    have HS10 := Aside0.mk (Nat.le_trans HS9.out hb10.size)
    have HL9 := Aside0.mk HS9.out
    clear hr10 hb10 HX9 HG9 HM9 HY9 HBL9 HC9 HS9 d0 d1 d2 d3 d4 d5 d6
    go_upto_region 10 with (refine store_own rfl 32 (.tmp 3) (.tmp 44) rfl W.heap.size (entC x (.slice A2 x.f3.length c2)) rfl rfl 32 _ HX10.out info32z rfl (ent_one _ _ _ _ _ _ _ _ _) ?_; intro W11 hW11 hb11 hk11; have HX11 := Aside0.mk hW11; have HK11 := Aside0.mk hk11; have HBL11 := Aside0.mk (below_weaken HBL10.out HWS.out hb11); clear hW11 hb11 hk11)
    have HG11 := Aside0.mk (HK11.out.blk HG10.out (Ne.symm HNX.out) (by simp))
    have k1 := (show W11.cell? ⟨g, 1, none⟩ = some (.int .i64 (last + 1)) from blk_cell HG11.out 1)
    have d0 := (show W11.cell? ⟨W.heap.size, 0, none⟩ = some (.int .i64 x.f0) from blk_cell HX11.out 0)
    have f0 := (show W11.frozen? ⟨W.heap.size, 0, none⟩ = false from blk_frozen HX11.out 0)
    go_upto_region 11 with fail
    have HX12 := Aside0.mk (blk_put (cs' := #[.int .i64 (last + 1), .int .i64 x.f1, .int .i64 x.f2.f0, .int .i64 x.f2.f1, .string x.f2.f2, .slice A2 x.f3.length c2, .string x.f4]) HX11.out 0 (.int .i64 (last + 1)) rfl)
    have HK12 := Aside0.mk (show KeepBut W11 (W11.setCell ⟨W.heap.size, 0, none⟩ (.int .i64 (last + 1))) W.heap.size none from KeepBut.set_ (KeepBut.refl _ _ _) 0 _)
    have HBL12 := Aside0.mk (show Below w.heap.size w (W11.setCell ⟨W.heap.size, 0, none⟩ (.int .i64 (last + 1))) from HBL11.out.setCell HWS.out _)
    generalize W11.setCell ⟨W.heap.size, 0, none⟩ (.int .i64 (last + 1)) = W12 at HX12 HK12 HBL12 ⊢
    have HG12 := Aside0.mk (HK12.out.blk HG11.out (Ne.symm HNX.out) (by simp))
    have HM12 := Aside0.mk ((HM10.out.keep HK11.out HN1.out).keep HK12.out HN1.out)
    have HY12 := Aside0.mk ((HY10.out.keep HK11.out HN2.out).keep HK12.out HN2.out)
    have HC12 := Aside0.mk (fun k (hk : k < W.heap.size) (h1 : k ≠ g) => (HK12.out.2 k (Nat.lt_of_lt_of_le (Nat.lt_of_lt_of_le hk HS10.out) HK11.out.1) (Nat.ne_of_lt hk) (by simp)).trans ((HK11.out.2 k (Nat.lt_of_lt_of_le hk HS10.out) (Nat.ne_of_lt hk) (by simp)).trans (HC10.out k hk h1)))
    have HS12 := Aside0.mk (Nat.le_trans HS10.out (Nat.le_trans HK11.out.1 HK12.out.1))
    have HR12 := Aside0.mk (show Kd.R (Kd.int .i64) 3 W12 W.heap.size (fun _ => True) (.slice A2 x.f3.length c2) x.f3 by
      have h1 := Kd.R_bound (Kd.R_keep HR10.out HK11.out (fun k hk e => by
        obtain ⟨_, _, _, q, hq, cells, hc⟩ := hk
        rw [e, HX10.out] at hc
        injection hc with hc
        injection hc with _ hc
        rw [← hc] at hq
        revert hq
        decide))
      have h2 := Kd.R_keep h1 HK12.out (fun k hk e => by
        obtain ⟨_, _, _, q, hq, cells, hc⟩ := hk
        rw [e, HX11.out] at hc
        injection hc with hc
        injection hc with _ hc
        rw [← hc] at hq
        revert hq
        decide)
      exact Kd.R_mono (Kd.R_lower h2 HL9.out) (fun _ _ => trivial))
    clear k1 d0 f0 HX10 HX11 HK11 HK12 HG10 HG11 HM10 HY10 HR10 HBL10 HBL11 HC10 HS10 HL9
    have hwf : (Lit.int .i64 (last + 1)).wf = true := Go.WalkArith.wf_i64 (by omega)
    obtain ⟨o, hrun, hmp⟩ := (show IsMap Try.prog 3 W12.drew b1 (entL m) from HM12.out.below (Below.refl _ _).drew).store intK Try.underlying98 (keyI hwf) (fun p hp e => by
      obtain ⟨q, hq, rfl⟩ := List.mem_map.1 hp
      have h1 := (H0.out.top q hq).2
      have h2 : q.1.f0 = last + 1 := by
        injection e
      omega) (.agg #[.int .i64 (last + 1), .int .i64 x.f1, .int .i64 x.f2.f0, .int .i64 x.f2.f1, .string x.f2.f2, .slice A2 x.f3.length c2, .string x.f4])
    have hrun0 : (Instr.mapUpdate 98 (.map (some b1)) (.int .i64 (last + 1)) (.agg #[.int .i64 (last + 1), .int .i64 x.f1, .int .i64 x.f2.f0, .int .i64 x.f2.f1, .string x.f2.f2, .slice A2 x.f3.length c2, .string x.f4])).run Try.prog W12.drew = .ok () (setBlock W12.drew b1 o) := hrun
    have k2 := (show W12.cell? ⟨g, 2, none⟩ = some (.map (some b1)) from blk_cell HG12.out 2)
    have d0 := (show W12.cell? ⟨W.heap.size, 0, none⟩ = some (.int .i64 (last + 1)) from blk_cell HX12.out 0)
    have d1 := (show W12.cell? ⟨W.heap.size, 1, none⟩ = some (.int .i64 x.f1) from blk_cell HX12.out 1)
    have d2 := (show W12.cell? ⟨W.heap.size, 2, none⟩ = some (.int .i64 x.f2.f0) from blk_cell HX12.out 2)
    have d3 := (show W12.cell? ⟨W.heap.size, 3, none⟩ = some (.int .i64 x.f2.f1) from blk_cell HX12.out 3)
    have d4 := (show W12.cell? ⟨W.heap.size, 4, none⟩ = some (.string x.f2.f2) from blk_cell HX12.out 4)
    have d5 := (show W12.cell? ⟨W.heap.size, 5, none⟩ = some (.slice A2 x.f3.length c2) from blk_cell HX12.out 5)
    have d6 := (show W12.cell? ⟨W.heap.size, 6, none⟩ = some (.string x.f4) from blk_cell HX12.out 6)
    have HM13 := Aside0.mk hmp
    have HG13 := Aside0.mk (show (setBlock W12.drew b1 o).heap[g]? = some (.cells #[.int .i64 room, .int .i64 (last + 1), .map (some b1), .map (some b2)] 101 (0, 0)) from (setBlock_ne W12.drew H0.out.ne1 o).trans HG12.out)
    have HX13 := Aside0.mk (show (setBlock W12.drew b1 o).heap[W.heap.size]? = some (.cells #[.int .i64 (last + 1), .int .i64 x.f1, .int .i64 x.f2.f0, .int .i64 x.f2.f1, .string x.f2.f2, .slice A2 x.f3.length c2, .string x.f4] 32 (0, 0)) from (setBlock_ne W12.drew (Ne.symm HN1.out) o).trans HX12.out)
    have HY13 := Aside0.mk (show IsMap Try.prog 105 (setBlock W12.drew b1 o) b2 (entK m) from HY12.out.move (setBlock_ne W12.drew (Ne.symm H0.out.ne) o))
    have HBL13 := Aside0.mk (setBlock_below HBL12.out.drew H0.out.b1ge o)
    have HC13 := Aside0.mk (fun k (hk : k < W.heap.size) (h1 : k ≠ g) (h2 : k ≠ b1) => (setBlock_ne W12.drew h2 o).trans (HC12.out k hk h1))
    have HS13 := Aside0.mk (show W.heap.size ≤ (setBlock W12.drew b1 o).heap.size by rw [setBlock_size]; exact HS12.out)
    have HR13 := Aside0.mk (show Kd.R (Kd.int .i64) 3 (setBlock W12.drew b1 o) W.heap.size (fun _ => True) (.slice A2 x.f3.length c2) x.f3 from rows_move HR12.out (fun k cells q hk => setBlock_ne W12.drew (fun e => by
      obtain ⟨es, clock, hm⟩ := HM12.out
      rw [e, hm.blk] at hk
      cases hk) o))
    have e2 := (show (setBlock W12.drew b1 o).cell? ⟨g, 2, none⟩ = some (.map (some b1)) from blk_cell HG13.out 2)
    have e0 := (show (setBlock W12.drew b1 o).cell? ⟨W.heap.size, 0, none⟩ = some (.int .i64 (last + 1)) from blk_cell HX13.out 0)
    have e1 := (show (setBlock W12.drew b1 o).cell? ⟨W.heap.size, 1, none⟩ = some (.int .i64 x.f1) from blk_cell HX13.out 1)
    have e2_ := (show (setBlock W12.drew b1 o).cell? ⟨W.heap.size, 2, none⟩ = some (.int .i64 x.f2.f0) from blk_cell HX13.out 2)
    have e3 := (show (setBlock W12.drew b1 o).cell? ⟨W.heap.size, 3, none⟩ = some (.int .i64 x.f2.f1) from blk_cell HX13.out 3)
    have e4 := (show (setBlock W12.drew b1 o).cell? ⟨W.heap.size, 4, none⟩ = some (.string x.f2.f2) from blk_cell HX13.out 4)
    have e5 := (show (setBlock W12.drew b1 o).cell? ⟨W.heap.size, 5, none⟩ = some (.slice A2 x.f3.length c2) from blk_cell HX13.out 5)
    have e6 := (show (setBlock W12.drew b1 o).cell? ⟨W.heap.size, 6, none⟩ = some (.string x.f4) from blk_cell HX13.out 6)
    clear hrun hmp HX12 HG12 HY12 HBL12 HC12 HS12 HR12
    go_region_held3 (fun w' => w'.cell? ⟨g, 2, none⟩ = some (.map (some b1)) ∧ w'.cell? ⟨W.heap.size, 0, none⟩ = some (.int .i64 (last + 1)) ∧ w'.cell? ⟨W.heap.size, 1, none⟩ = some (.int .i64 x.f1) ∧ w'.cell? ⟨W.heap.size, 2, none⟩ = some (.int .i64 x.f2.f0) ∧ w'.cell? ⟨W.heap.size, 3, none⟩ = some (.int .i64 x.f2.f1) ∧ w'.cell? ⟨W.heap.size, 4, none⟩ = some (.string x.f2.f2) ∧ w'.cell? ⟨W.heap.size, 5, none⟩ = some (.slice A2 x.f3.length c2) ∧ w'.cell? ⟨W.heap.size, 6, none⟩ = some (.string x.f4)) (go_keep) (fail)
    all_goals
      go_upto_region 12 with fail
      generalize setBlock W12.drew b1 o = W13 at HM13 HG13 HX13 HY13 HBL13 HC13 HS13 HR13 e0 e1 e2_ e3 e4 e5 e6 ⊢
      have k3 := (show W13.cell? ⟨g, 3, none⟩ = some (.map (some b2)) from blk_cell HG13.out 3)
      clear hrun0 k2 d0 d1 d2 d3 d4 d5 d6 e2 HM12
      go_region_law (refine goes_ Try.func57 (by kernel_rfl) rfl #[.agg #[.int .i64 (last + 1), .int .i64 x.f1, .int .i64 x.f2.f0, .int .i64 x.f2.f1, .string x.f2.f2, .slice A2 x.f3.length c2, .string x.f4]] (by rfl) rfl rfl (by (try simp only [List.map_toArray, List.map_cons, List.map_nil]); first | done | rfl) ?_; refine (store_of.calls (last + 1) x.f1 x.f2.f0 x.f2.f1 x.f2.f2 A2 c2 x.f3 x.f4 x.f1 x.f2.f0 x.f2.f1 x.f2.f2 _ (Kd.C_below (Kd.R_reads' HR13.out).2.2 (by repeat (first | (with_reducible first | exact Below.refl _ _ | apply below_alloc | apply pw_below_drewN | apply below_drew1) | exact Below.refl _ _))) (Kd.R_reads' HR13.out).2.1 rfl).mono ?_; rintro e w14 ⟨rfl, hb14⟩; refine ⟨_, rfl, ?_⟩; have hbb := (below_step (by repeat (first | (with_reducible first | exact Below.refl _ _ | apply below_alloc | apply pw_below_drewN | apply below_drew1) | exact Below.refl _ _)) hb14 : Below W13.heap.size W13 w14); have HB14 := Aside0.mk hbb; have k3 := (show w14.cell? ⟨g, 3, none⟩ = some (.map (some b2)) from blk_cell (blk_below HG13.out hbb) 3); have e0 := (show w14.cell? ⟨W.heap.size, 0, none⟩ = some (.int .i64 (last + 1)) from blk_cell (blk_below HX13.out hbb) 0); obtain ⟨o2, hrun2, hmp2⟩ := (HY13.out.below hbb).store keyedK Try.underlying99 HLK.out HN.out (.int .i64 (last + 1)); have hrun3 : (Instr.mapUpdate 99 (.map (some b2)) (.agg #[.int .i64 x.f1, .int .i64 x.f2.f0, .int .i64 x.f2.f1, .string x.f2.f2]) (.int .i64 (last + 1))).run Try.prog w14 = .ok () (setBlock w14 b2 o2) := hrun2; have HMP2 := Aside0.mk hmp2; have q0 := (show (setBlock w14 b2 o2).cell? ⟨W.heap.size, 0, none⟩ = some (.int .i64 (last + 1)) from blk_cell ((setBlock_ne w14 (Ne.symm HN2.out) o2).trans (blk_below HX13.out hbb)) 0); clear hb14 hbb hrun2 hmp2)
      all_goals
        go_wp2_with fail
        go_ret2
        have hcell : ∀ k, k < W.heap.size → k ≠ g → k ≠ b1 → k ≠ b2 → (setBlock w14 b2 o2).heap[k]? = W.heap[k]? := fun k hk hg h1 h2 => (setBlock_ne _ h2 o2).trans ((HB14.out.block k (Nat.lt_of_lt_of_le hk HS13.out)).trans (HC13.out k hk hg h1))
        have hne : ∀ k (cells : Array Value), W.heap[k]? = some (.cells cells 3 (0, 0)) → k ≠ g ∧ k ≠ b1 ∧ k ≠ b2 := by
          intro k cells hk
          refine ⟨fun e => ?_, fun e => ?_, fun e => ?_⟩
          · rw [e, H0.out.blk] at hk
            injection hk with hk
            injection hk with _ hk
            exact absurd hk (by decide)
          · obtain ⟨es, clock, hm⟩ := H0.out.map
            rw [e, hm.blk] at hk
            cases hk
          · obtain ⟨es, clock, hm⟩ := H0.out.keys
            rw [e, hm.blk] at hk
            cases hk
        have hkm := (HM13.out.below HB14.out).move (setBlock_ne w14 H0.out.ne o2)
        refine ⟨.slice A2 x.f3.length c2, rfl, ⟨(setBlock_ne _ H0.out.ne2 o2).trans (blk_below HG13.out HB14.out), ?_, ?_, H0.out.ne, fun p hp => ?_, fun p hp => ?_, H0.out.ge, H0.out.b1ge, H0.out.b2ge, setBlock_below (below_step HBL13.out HB14.out) H0.out.b2ge o2, ?_, ?_, by omega⟩, ?_⟩
        · unfold entL at hkm ⊢
          rw [List.map_append]
          exact hkm
        · have := HMP2.out
          unfold entK at this ⊢
          rw [List.map_append]
          exact this
        · rcases List.mem_append.1 hp with hp | hp
          · exact ints_move (e := 0) (H0.out.rows p hp) (fun k cells hk => hcell k (blk_lt hk) (hne k cells hk).1 (hne k cells hk).2.1 (hne k cells hk).2.2)
          · rw [List.mem_singleton.1 hp]
            refine Kd.R_lower (rows_move (Kd.R_below HR13.out HB14.out) (fun k cells q hk => setBlock_ne w14 (fun e => ?_) o2)) HWS.out
            obtain ⟨es, clock, hm⟩ := HY13.out.below HB14.out
            rw [e, hm.blk] at hk
            cases hk
        · rcases List.mem_append.1 hp with hp | hp
          · exact H0.out.ok p hp
          · rw [List.mem_singleton.1 hp]
            exact ⟨HK.out.p, HK.out.a, HK.out.b, HK.out.s, HK.out.l⟩
        · rw [List.map_append, List.pairwise_append]
          refine ⟨H0.out.rise, by simp, fun a ha c hc => ?_⟩
          obtain ⟨p, hp, rfl⟩ := List.mem_map.1 ha
          have hc2 : c = last + 1 := by simpa using hc
          have := (H0.out.top p hp).2
          omega
        · intro p hp
          rcases List.mem_append.1 hp with hp | hp
          · have := H0.out.top p hp
            omega
          · rw [List.mem_singleton.1 hp]
            exact ⟨by show 1 ≤ last + 1; omega, Int.le_refl _⟩
        · exact ⟨Nat.le_trans HS13.out (Nat.le_trans HB14.out.size (by rw [setBlock_size]; exact Nat.le_refl _)), fun i hi hn => hcell i hi (fun e => hn (e ▸ H0.out.footG)) (fun e => hn (e ▸ H0.out.footB1)) (fun e => hn (e ▸ H0.out.footB2))⟩
end
end Go.Proofs.Ytcddajdjmlmpdaa.Print
