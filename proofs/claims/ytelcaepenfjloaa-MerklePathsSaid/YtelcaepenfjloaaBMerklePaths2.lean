/- The proof of the statement MerklePaths of the seat, part 2 of 2: the functions that it reaches, as plain functions, with the walks that show it, and what they come to; the last part ends in the row. No condition beyond the statement's own. -/
import Derived.Test.YtelcaepenfjloaaPrK
import Derived.Test.YtelcaepenfjloaaMaShaTop
import Derived.Test.YtelcaepenfjloaaPureSha
import Derived.Test.YtelcaepenfjloaaPureW
import Derived.Test.YtelcaepenfjloaaRows
import Derived.Test.YtelcaepenfjloaaFct
import Derived.WalkKit
import Derived.ProofKit
import Derived.OpenShut
import Derived.ShutString
import Derived.ChangeOld
import Derived.Below
import Derived.SizedLaws
import Derived.Carry
import Derived.Test.YtelcaepenfjloaaBMerklePaths1
/-! #### Pr11 -/
-- By the kit's print, called by a program of this session with functions that are proved by hand.
namespace Go.Proofs.Ytelcaepenfjloaa.Print
open Go.RowKit Go.Proofs.YtelcaepenfjloaaW.PrintWords Go.Proofs.YtelcaepenfjloaaW.PrintLast Go.Proofs.YtelcaepenfjloaaW.PrintMore
attribute [local go_sem] max2_int min2_int max_two min_two max_three min_three max_four min_four
set_option linter.unusedVariables false
set_option linter.unusedSimpArgs false

/-! ### mosaiclaw03_MerklePaths: function 11 -/
def mosaiclaw03_MerklePaths.f (k : Nat) (l0 : List ByteArray) (a1 : Int) : Option (Bool) := (mosaiclaw03_few.f k l0 30 1100).bind fun t362 => (if t362 = true then ((merkle_Path.f k l0 a1).bind fun bt364 => ((mosaicref03_Path.f k l0 a1).bind fun bt368 => ((mosaiclaw03_awake.f k).bind fun t372 => (if t372 = true then ((mosaicref03_Same.f k bt364.1 bt368.1).bind fun t373 => (if t373 = true then (if bt364.2 = bt368.2 then (if bt364.2 = 0 then ((merkle_Depth.f k (l0.length : Int) a1).bind fun t374 => (some ((bt364.1.length : Int) == t374))) else (some true)) else (some false)) else (some false))) else (some false))))) else ((mosaiclaw03_awake.f k).bind fun t363 => (some t363)))
theorem mosaiclaw03_MerklePaths.mono : ∀ a0 a1 k, LeO (mosaiclaw03_MerklePaths.f k a0 a1) (mosaiclaw03_MerklePaths.f (k + 1) a0 a1) := by
 intro a0 a1 k
 unfold mosaiclaw03_MerklePaths.f
 repeat' first
   | (with_reducible exact merkle_Depth.mono _ _ _)
   | (with_reducible exact merkle_Path.mono _ _ _)
   | (with_reducible exact mosaiclaw03_awake.mono _)
   | (with_reducible exact mosaiclaw03_few.mono _ _ _ _)
   | (with_reducible exact mosaicref03_Path.mono _ _ _)
   | (with_reducible exact mosaicref03_Same.mono _ _ _)
   | (with_reducible exact LeO.refl _)
   | (with_reducible exact LeO.none _)
   | (with_reducible refine LeO.ite ?_ ?_)
   | (with_reducible refine LeO.bind ?_ (fun _ => ?_))
   | exact merkle_Depth.mono _ _ _
   | exact merkle_Path.mono _ _ _
   | exact mosaiclaw03_awake.mono _
   | exact mosaiclaw03_few.mono _ _ _ _
   | exact mosaicref03_Path.mono _ _ _
   | exact mosaicref03_Same.mono _ _ _
   | exact LeO.none _
   | refine LeO.ite ?_ ?_
   | refine LeO.bind ?_ (fun _ => ?_)
set_option maxHeartbeats 8000000 in
set_option maxRecDepth 100000 in
theorem mosaiclaw03_MerklePaths.callsT (k : Nat) (A0 : Option Addr) (c0 : Nat) (l0 : List ByteArray) (a1 : Int) (w : World) (hr0 : Kd.C Kd.string w A0 l0.length l0) (hc0 : l0.length ≤ c0) (h : mosaiclaw03_MerklePaths.f k l0 a1 = some true) :
  Calls Try.prog 11 #[.slice A0 l0.length c0, .int .i64 a1] w fun e w' => e = .returned (.bool true) ∧ Below w.heap.size w w' := by
 have HR0 := Aside0.mk hr0
 have HC0 := Aside0.mk hc0
 clear hr0 hc0
 have HB := Aside0.mk (Below.refl w.heap.size w)
 have H : ((mosaiclaw03_few.f k l0 30 1100).bind fun t362 => (if t362 = true then ((merkle_Path.f k l0 a1).bind fun bt364 => ((mosaicref03_Path.f k l0 a1).bind fun bt368 => ((mosaiclaw03_awake.f k).bind fun t372 => (if t372 = true then ((mosaicref03_Same.f k bt364.1 bt368.1).bind fun t373 => (if t373 = true then (if bt364.2 = bt368.2 then (if bt364.2 = 0 then ((merkle_Depth.f k (l0.length : Int) a1).bind fun t374 => (some ((bt364.1.length : Int) == t374))) else (some true)) else (some false)) else (some false))) else (some false))))) else ((mosaiclaw03_awake.f k).bind fun t363 => (some t363)))) = some true := h
 clear h
 replace H := Option.bind_eq_some_iff.mp H
 obtain ⟨t362, A30, H⟩ := H
 replace H : (if t362 = true then ((merkle_Path.f k l0 a1).bind fun bt364 => ((mosaicref03_Path.f k l0 a1).bind fun bt368 => ((mosaiclaw03_awake.f k).bind fun t372 => (if t372 = true then ((mosaicref03_Same.f k bt364.1 bt368.1).bind fun t373 => (if t373 = true then (if bt364.2 = bt368.2 then (if bt364.2 = 0 then ((merkle_Depth.f k (l0.length : Int) a1).bind fun t374 => (some ((bt364.1.length : Int) == t374))) else (some true)) else (some false)) else (some false))) else (some false))))) else ((mosaiclaw03_awake.f k).bind fun t363 => (some t363))) = some true := H
 have A3 := Aside0.mk A30
 clear A30
 by_cases c4 : t362 = true
 ·
  subst c4
  have H1 : ((merkle_Path.f k l0 a1).bind fun bt364 => ((mosaicref03_Path.f k l0 a1).bind fun bt368 => ((mosaiclaw03_awake.f k).bind fun t372 => (if t372 = true then ((mosaicref03_Same.f k bt364.1 bt368.1).bind fun t373 => (if t373 = true then (if bt364.2 = bt368.2 then (if bt364.2 = 0 then ((merkle_Depth.f k (l0.length : Int) a1).bind fun t374 => (some ((bt364.1.length : Int) == t374))) else (some true)) else (some false)) else (some false))) else (some false))))) = some true := by rw [if_pos rfl] at H; exact H
  clear H
  have H := H1
  clear H1
  replace H := Option.bind_eq_some_iff.mp H
  obtain ⟨⟨t364, t365⟩, A50, H⟩ := H
  replace H : ((mosaicref03_Path.f k l0 a1).bind fun bt368 => ((mosaiclaw03_awake.f k).bind fun t372 => (if t372 = true then ((mosaicref03_Same.f k t364 bt368.1).bind fun t373 => (if t373 = true then (if t365 = bt368.2 then (if t365 = 0 then ((merkle_Depth.f k (l0.length : Int) a1).bind fun t374 => (some ((t364.length : Int) == t374))) else (some true)) else (some false)) else (some false))) else (some false)))) = some true := H
  have A5 := Aside0.mk A50
  clear A50
  replace H := Option.bind_eq_some_iff.mp H
  obtain ⟨⟨t368, t369⟩, A60, H⟩ := H
  replace H : ((mosaiclaw03_awake.f k).bind fun t372 => (if t372 = true then ((mosaicref03_Same.f k t364 t368).bind fun t373 => (if t373 = true then (if t365 = t369 then (if t365 = 0 then ((merkle_Depth.f k (l0.length : Int) a1).bind fun t374 => (some ((t364.length : Int) == t374))) else (some true)) else (some false)) else (some false))) else (some false))) = some true := H
  have A6 := Aside0.mk A60
  clear A60
  replace H := Option.bind_eq_some_iff.mp H
  obtain ⟨t372, A70, H⟩ := H
  replace H : (if t372 = true then ((mosaicref03_Same.f k t364 t368).bind fun t373 => (if t373 = true then (if t365 = t369 then (if t365 = 0 then ((merkle_Depth.f k (l0.length : Int) a1).bind fun t374 => (some ((t364.length : Int) == t374))) else (some true)) else (some false)) else (some false))) else (some false)) = some true := H
  have A7 := Aside0.mk A70
  clear A70
  by_cases c8 : t372 = true
  ·
   subst c8
   have H1 : ((mosaicref03_Same.f k t364 t368).bind fun t373 => (if t373 = true then (if t365 = t369 then (if t365 = 0 then ((merkle_Depth.f k (l0.length : Int) a1).bind fun t374 => (some ((t364.length : Int) == t374))) else (some true)) else (some false)) else (some false))) = some true := by rw [if_pos rfl] at H; exact H
   clear H
   have H := H1
   clear H1
   replace H := Option.bind_eq_some_iff.mp H
   obtain ⟨t373, A90, H⟩ := H
   replace H : (if t373 = true then (if t365 = t369 then (if t365 = 0 then ((merkle_Depth.f k (l0.length : Int) a1).bind fun t374 => (some ((t364.length : Int) == t374))) else (some true)) else (some false)) else (some false)) = some true := H
   have A9 := Aside0.mk A90
   clear A90
   by_cases c10 : t373 = true
   ·
    subst c10
    have H1 : (if t365 = t369 then (if t365 = 0 then ((merkle_Depth.f k (l0.length : Int) a1).bind fun t374 => (some ((t364.length : Int) == t374))) else (some true)) else (some false)) = some true := by rw [if_pos rfl] at H; exact H
    clear H
    have H := H1
    clear H1
    by_cases c11 : t365 = t369
    ·
     rw [if_pos c11] at H
     have c11b0 : (t365 == t369) = true := beq_iff_eq.mpr c11
     have c11b1 : (t365 != t369) = false := bne_eq_false_iff_eq.mpr c11
     clear c11
     by_cases c12 : t365 = 0
     ·
      rw [if_pos c12] at H
      have c12b0 : (t365 == 0) = true := beq_iff_eq.mpr c12
      have c12b1 : (t365 != 0) = false := bne_eq_false_iff_eq.mpr c12
      clear c12
      replace H := Option.bind_eq_some_iff.mp H
      obtain ⟨t374, A130, H⟩ := H
      replace H : (some ((t364.length : Int) == t374)) = some true := H
      have A13 := Aside0.mk A130
      clear A130
      first | (obtain rfl := Option.some.inj H) | (have HT_ := Option.some.inj H)
      go_enter Try.func11, Try.ntmps11
      go_wp2_with (first | ((with_reducible refine gate_callee (f := 44) rfl ?_); refine goesL_ (some 10) rfl rfl Try.func44 (by kernel_rfl) rfl #[.slice A0 l0.length c0, .int .i64 30, .int .i64 1100] rfl (by (try simp only [List.map_toArray, List.map_cons, List.map_nil]); first | done | rfl | (simp only [List.length_drop, List.length_take]; rfl)) ?_; (with_reducible refine (mosaiclaw03_few.calls k _ _ l0 30 1100 true _ ?side1 ?side2 A3.out).mono ?_); (case side1 => repeat (first | exact HR0.out | (with_reducible refine Kd.C_alloc ?_ _) | (with_reducible refine Kd.C_drewN ?_ _) | (with_reducible refine Kd.C_drew ?_))); (case side2 => exact HC0.out); rintro e w' ⟨rfl, ⟨nd, rfl⟩⟩; refine ⟨_, rfl, ?_⟩) | ((with_reducible refine gate_callee (f := 52) rfl ?_); refine goesL_ (some 16) rfl rfl Try.func52 (by kernel_rfl) rfl #[.slice A0 l0.length c0, .int .i64 a1] rfl (by (try simp only [List.map_toArray, List.map_cons, List.map_nil]); first | done | rfl | (simp only [List.length_drop, List.length_take]; rfl)) ?_; (with_reducible refine (merkle_Path.calls k _ _ l0 a1 t364 t365 _ ?side1 ?side2 A5.out).mono ?_); (case side1 => repeat (first | exact HR0.out | (with_reducible refine Kd.C_alloc ?_ _) | (with_reducible refine Kd.C_drewN ?_ _) | (with_reducible refine Kd.C_drew ?_))); (case side2 => exact HC0.out); rintro e w14 ⟨v366, rfl, ho0, hb⟩; refine ⟨_, rfl, ?_⟩; have n0_ := Aside0.mk (Kd.R_lower ho0 (below_size (by repeat (first | (with_reducible first | exact HB.out | apply below_alloc | apply pw_below_drewN | apply below_drew1) | exact HB.out)))); have n1_ := Aside0.mk (below_step (by repeat (first | (with_reducible first | exact HB.out | apply below_alloc | apply pw_below_drewN | apply below_drew1) | exact HB.out)) hb); clear HB; have HO367 := n0_; have HB := n1_; clear n0_ n1_; (try clear hb); (try clear hb2); (try clear hk); (try clear hi); (try clear ho0)) | ((with_reducible refine gate_callee (f := 53) rfl ?_); refine goesL_ (some 22) rfl rfl Try.func53 (by kernel_rfl) rfl #[.slice A0 l0.length c0, .int .i64 a1] rfl (by (try simp only [List.map_toArray, List.map_cons, List.map_nil]); first | done | rfl | (simp only [List.length_drop, List.length_take]; rfl)) ?_; (with_reducible refine (mosaicref03_Path.calls k _ _ l0 a1 t368 t369 _ ?side1 ?side2 A6.out).mono ?_); (case side1 => repeat (first | exact (Kd.C_below HR0.out HB.out) | (with_reducible refine Kd.C_alloc ?_ _) | (with_reducible refine Kd.C_drewN ?_ _) | (with_reducible refine Kd.C_drew ?_))); (case side2 => exact HC0.out); rintro e w15 ⟨v370, rfl, ho0, hb⟩; refine ⟨_, rfl, ?_⟩; have n0_ := Aside0.mk (Kd.R_elder' (by (with_reducible repeat (first | apply Kd.R_alloc | apply Kd.R_drewN | apply Kd.R_drew)); exact HO367.out) (Kd.R_base ho0) hb); have n1_ := Aside0.mk (Kd.R_lower (Kd.R_new' ho0 (Kd.R_lt (by (with_reducible repeat (first | apply Kd.R_alloc | apply Kd.R_drewN | apply Kd.R_drew)); exact HO367.out))) (below_size (by repeat (first | (with_reducible first | exact HB.out | apply below_alloc | apply pw_below_drewN | apply below_drew1) | exact HB.out)))); have n2_ := Aside0.mk (below_step (by repeat (first | (with_reducible first | exact HB.out | apply below_alloc | apply pw_below_drewN | apply below_drew1) | exact HB.out)) hb); clear HO367; clear HB; have HO367 := n0_; have HO371 := n1_; have HB := n2_; clear n0_ n1_ n2_; (try clear hb); (try clear hb2); (try clear hk); (try clear hi); (try clear ho0)) | ((with_reducible refine gate_callee (f := 45) rfl ?_); refine goesL_ (some 25) rfl rfl Try.func45 (by kernel_rfl) rfl #[] rfl (by (try simp only [List.map_toArray, List.map_cons, List.map_nil]); first | done | rfl | (simp only [List.length_drop, List.length_take]; rfl)) ?_; (with_reducible refine (mosaiclaw03_awake.calls k  true _ A7.out).mono ?_); rintro e w16 ⟨rfl, hb⟩; refine ⟨_, rfl, ?_⟩; have n0_ := Aside0.mk (Kd.R_below (by (with_reducible repeat (first | apply Kd.R_alloc | apply Kd.R_drewN | apply Kd.R_drew)); exact HO367.out) hb); have n1_ := Aside0.mk (Kd.R_below (by (with_reducible repeat (first | apply Kd.R_alloc | apply Kd.R_drewN | apply Kd.R_drew)); exact HO371.out) hb); have n2_ := Aside0.mk (below_step (by repeat (first | (with_reducible first | exact HB.out | apply below_alloc | apply pw_below_drewN | apply below_drew1) | exact HB.out)) hb); clear HO367; clear HO371; clear HB; have HO367 := n0_; have HO371 := n1_; have HB := n2_; clear n0_ n1_ n2_; (try clear hb); (try clear hb2); (try clear hk); (try clear hi); obtain ⟨Ao17, co17, eo17⟩ := Kd.R_slice HO367.out; subst eo17; obtain ⟨Ao18, co18, eo18⟩ := Kd.R_slice HO371.out; subst eo18) | (go_at_call 54; (with_reducible refine (mosaicref03_Same.calls k _ _ t364 _ _ t368 true _ ?side1 ?side2 ?side3 ?side4 A9.out).mono ?_); (case side1 => repeat (first | exact (Kd.R_reads' HO367.out).2.2 | (with_reducible refine Kd.C_alloc ?_ _) | (with_reducible refine Kd.C_drewN ?_ _) | (with_reducible refine Kd.C_drew ?_))); (case side2 => exact (Kd.R_reads' HO367.out).2.1); (case side3 => repeat (first | exact (Kd.R_reads' HO371.out).2.2 | (with_reducible refine Kd.C_alloc ?_ _) | (with_reducible refine Kd.C_drewN ?_ _) | (with_reducible refine Kd.C_drew ?_))); (case side4 => exact (Kd.R_reads' HO371.out).2.1); rintro e w' ⟨rfl, ⟨nd, rfl⟩⟩) | (go_at_call 55; (with_reducible refine (merkle_Depth.calls k (l0.length : Int) a1 t374 _ A13.out).mono ?_); rintro e w' ⟨rfl, ⟨nd, rfl⟩⟩))
      go_ret
      exact ⟨by first | rfl | (simp [errW_none, errW_some] <;> rfl) | (simp [*, errW_none, errW_some] <;> rfl), by repeat (first | (with_reducible first | exact HB.out | apply below_alloc | apply pw_below_drewN | apply below_drew1) | exact HB.out)⟩
     ·
      rw [if_neg c12] at H
      have c12b0 : (t365 == 0) = false := beq_eq_false_iff_ne.mpr c12
      have c12b1 : (t365 != 0) = true := bne_iff_ne.mpr c12
      clear H
      go_enter Try.func11, Try.ntmps11
      go_wp2_with (first | ((with_reducible refine gate_callee (f := 44) rfl ?_); refine goesL_ (some 10) rfl rfl Try.func44 (by kernel_rfl) rfl #[.slice A0 l0.length c0, .int .i64 30, .int .i64 1100] rfl (by (try simp only [List.map_toArray, List.map_cons, List.map_nil]); first | done | rfl | (simp only [List.length_drop, List.length_take]; rfl)) ?_; (with_reducible refine (mosaiclaw03_few.calls k _ _ l0 30 1100 true _ ?side1 ?side2 A3.out).mono ?_); (case side1 => repeat (first | exact HR0.out | (with_reducible refine Kd.C_alloc ?_ _) | (with_reducible refine Kd.C_drewN ?_ _) | (with_reducible refine Kd.C_drew ?_))); (case side2 => exact HC0.out); rintro e w' ⟨rfl, ⟨nd, rfl⟩⟩; refine ⟨_, rfl, ?_⟩) | ((with_reducible refine gate_callee (f := 52) rfl ?_); refine goesL_ (some 16) rfl rfl Try.func52 (by kernel_rfl) rfl #[.slice A0 l0.length c0, .int .i64 a1] rfl (by (try simp only [List.map_toArray, List.map_cons, List.map_nil]); first | done | rfl | (simp only [List.length_drop, List.length_take]; rfl)) ?_; (with_reducible refine (merkle_Path.calls k _ _ l0 a1 t364 t365 _ ?side1 ?side2 A5.out).mono ?_); (case side1 => repeat (first | exact HR0.out | (with_reducible refine Kd.C_alloc ?_ _) | (with_reducible refine Kd.C_drewN ?_ _) | (with_reducible refine Kd.C_drew ?_))); (case side2 => exact HC0.out); rintro e w19 ⟨v366, rfl, ho0, hb⟩; refine ⟨_, rfl, ?_⟩; have n0_ := Aside0.mk (Kd.R_lower ho0 (below_size (by repeat (first | (with_reducible first | exact HB.out | apply below_alloc | apply pw_below_drewN | apply below_drew1) | exact HB.out)))); have n1_ := Aside0.mk (below_step (by repeat (first | (with_reducible first | exact HB.out | apply below_alloc | apply pw_below_drewN | apply below_drew1) | exact HB.out)) hb); clear HB; have HO367 := n0_; have HB := n1_; clear n0_ n1_; (try clear hb); (try clear hb2); (try clear hk); (try clear hi); (try clear ho0)) | ((with_reducible refine gate_callee (f := 53) rfl ?_); refine goesL_ (some 22) rfl rfl Try.func53 (by kernel_rfl) rfl #[.slice A0 l0.length c0, .int .i64 a1] rfl (by (try simp only [List.map_toArray, List.map_cons, List.map_nil]); first | done | rfl | (simp only [List.length_drop, List.length_take]; rfl)) ?_; (with_reducible refine (mosaicref03_Path.calls k _ _ l0 a1 t368 t369 _ ?side1 ?side2 A6.out).mono ?_); (case side1 => repeat (first | exact (Kd.C_below HR0.out HB.out) | (with_reducible refine Kd.C_alloc ?_ _) | (with_reducible refine Kd.C_drewN ?_ _) | (with_reducible refine Kd.C_drew ?_))); (case side2 => exact HC0.out); rintro e w20 ⟨v370, rfl, ho0, hb⟩; refine ⟨_, rfl, ?_⟩; have n0_ := Aside0.mk (Kd.R_elder' (by (with_reducible repeat (first | apply Kd.R_alloc | apply Kd.R_drewN | apply Kd.R_drew)); exact HO367.out) (Kd.R_base ho0) hb); have n1_ := Aside0.mk (Kd.R_lower (Kd.R_new' ho0 (Kd.R_lt (by (with_reducible repeat (first | apply Kd.R_alloc | apply Kd.R_drewN | apply Kd.R_drew)); exact HO367.out))) (below_size (by repeat (first | (with_reducible first | exact HB.out | apply below_alloc | apply pw_below_drewN | apply below_drew1) | exact HB.out)))); have n2_ := Aside0.mk (below_step (by repeat (first | (with_reducible first | exact HB.out | apply below_alloc | apply pw_below_drewN | apply below_drew1) | exact HB.out)) hb); clear HO367; clear HB; have HO367 := n0_; have HO371 := n1_; have HB := n2_; clear n0_ n1_ n2_; (try clear hb); (try clear hb2); (try clear hk); (try clear hi); (try clear ho0)) | ((with_reducible refine gate_callee (f := 45) rfl ?_); refine goesL_ (some 25) rfl rfl Try.func45 (by kernel_rfl) rfl #[] rfl (by (try simp only [List.map_toArray, List.map_cons, List.map_nil]); first | done | rfl | (simp only [List.length_drop, List.length_take]; rfl)) ?_; (with_reducible refine (mosaiclaw03_awake.calls k  true _ A7.out).mono ?_); rintro e w21 ⟨rfl, hb⟩; refine ⟨_, rfl, ?_⟩; have n0_ := Aside0.mk (Kd.R_below (by (with_reducible repeat (first | apply Kd.R_alloc | apply Kd.R_drewN | apply Kd.R_drew)); exact HO367.out) hb); have n1_ := Aside0.mk (Kd.R_below (by (with_reducible repeat (first | apply Kd.R_alloc | apply Kd.R_drewN | apply Kd.R_drew)); exact HO371.out) hb); have n2_ := Aside0.mk (below_step (by repeat (first | (with_reducible first | exact HB.out | apply below_alloc | apply pw_below_drewN | apply below_drew1) | exact HB.out)) hb); clear HO367; clear HO371; clear HB; have HO367 := n0_; have HO371 := n1_; have HB := n2_; clear n0_ n1_ n2_; (try clear hb); (try clear hb2); (try clear hk); (try clear hi); obtain ⟨Ao22, co22, eo22⟩ := Kd.R_slice HO367.out; subst eo22; obtain ⟨Ao23, co23, eo23⟩ := Kd.R_slice HO371.out; subst eo23) | (go_at_call 54; (with_reducible refine (mosaicref03_Same.calls k _ _ t364 _ _ t368 true _ ?side1 ?side2 ?side3 ?side4 A9.out).mono ?_); (case side1 => repeat (first | exact (Kd.R_reads' HO367.out).2.2 | (with_reducible refine Kd.C_alloc ?_ _) | (with_reducible refine Kd.C_drewN ?_ _) | (with_reducible refine Kd.C_drew ?_))); (case side2 => exact (Kd.R_reads' HO367.out).2.1); (case side3 => repeat (first | exact (Kd.R_reads' HO371.out).2.2 | (with_reducible refine Kd.C_alloc ?_ _) | (with_reducible refine Kd.C_drewN ?_ _) | (with_reducible refine Kd.C_drew ?_))); (case side4 => exact (Kd.R_reads' HO371.out).2.1); rintro e w' ⟨rfl, ⟨nd, rfl⟩⟩))
      go_ret
      exact ⟨by first | rfl | (simp [errW_none, errW_some] <;> rfl) | (simp [*, errW_none, errW_some] <;> rfl), by repeat (first | (with_reducible first | exact HB.out | apply below_alloc | apply pw_below_drewN | apply below_drew1) | exact HB.out)⟩
    ·
     rw [if_neg c11] at H
     have c11b0 : (t365 == t369) = false := beq_eq_false_iff_ne.mpr c11
     have c11b1 : (t365 != t369) = true := bne_iff_ne.mpr c11
     exact absurd (Option.some.inj H) (by simp)
   ·
    replace c10 := Bool.eq_false_iff.mpr c10
    subst c10
    have H1 : (some false) = some true := by rw [if_neg (show ¬ (false = true) by decide)] at H; exact H
    clear H
    have H := H1
    clear H1
    exact absurd (Option.some.inj H) (by simp)
  ·
   replace c8 := Bool.eq_false_iff.mpr c8
   subst c8
   have H1 : (some false) = some true := by rw [if_neg (show ¬ (false = true) by decide)] at H; exact H
   clear H
   have H := H1
   clear H1
   exact absurd (Option.some.inj H) (by simp)
 ·
  replace c4 := Bool.eq_false_iff.mpr c4
  subst c4
  have H1 : ((mosaiclaw03_awake.f k).bind fun t363 => (some t363)) = some true := by rw [if_neg (show ¬ (false = true) by decide)] at H; exact H
  clear H
  have H := H1
  clear H1
  replace H := Option.bind_eq_some_iff.mp H
  obtain ⟨t363, A370, H⟩ := H
  replace H : (some t363) = some true := H
  have A37 := Aside0.mk A370
  clear A370
  obtain rfl := Option.some.inj H
  go_enter Try.func11, Try.ntmps11
  go_wp2_with (first | ((with_reducible refine gate_callee (f := 44) rfl ?_); refine goesL_ (some 10) rfl rfl Try.func44 (by kernel_rfl) rfl #[.slice A0 l0.length c0, .int .i64 30, .int .i64 1100] rfl (by (try simp only [List.map_toArray, List.map_cons, List.map_nil]); first | done | rfl | (simp only [List.length_drop, List.length_take]; rfl)) ?_; (with_reducible refine (mosaiclaw03_few.calls k _ _ l0 30 1100 false _ ?side1 ?side2 A3.out).mono ?_); (case side1 => repeat (first | exact HR0.out | (with_reducible refine Kd.C_alloc ?_ _) | (with_reducible refine Kd.C_drewN ?_ _) | (with_reducible refine Kd.C_drew ?_))); (case side2 => exact HC0.out); rintro e w' ⟨rfl, ⟨nd, rfl⟩⟩; refine ⟨_, rfl, ?_⟩) | ((with_reducible refine gate_callee (f := 45) rfl ?_); refine goesL_ (some 12) rfl rfl Try.func45 (by kernel_rfl) rfl #[] rfl (by (try simp only [List.map_toArray, List.map_cons, List.map_nil]); first | done | rfl | (simp only [List.length_drop, List.length_take]; rfl)) ?_; (with_reducible refine (mosaiclaw03_awake.calls k  true _ A37.out).mono ?_); rintro e w38 ⟨rfl, hb⟩; refine ⟨_, rfl, ?_⟩; have n0_ := Aside0.mk (below_step (by repeat (first | (with_reducible first | exact HB.out | apply below_alloc | apply pw_below_drewN | apply below_drew1) | exact HB.out)) hb); clear HB; have HB := n0_; clear n0_; (try clear hb); (try clear hb2); (try clear hk); (try clear hi)))
  go_ret
  exact ⟨by first | rfl | (simp [errW_none, errW_some] <;> rfl) | (simp [*, errW_none, errW_some] <;> rfl), by repeat (first | (with_reducible first | exact HB.out | apply below_alloc | apply pw_below_drewN | apply below_drew1) | exact HB.out)⟩

end Go.Proofs.Ytelcaepenfjloaa.Print
/-! #### StmMerklePaths -/
-- By the kit's print, called by a program of this session with functions that are proved by hand.
namespace Go.Proofs.Ytelcaepenfjloaa.Print
open Go.RowKit Go.Proofs.YtelcaepenfjloaaW.PrintWords
/-- THE ONE PURE STATEMENT of mosaiclaw03_MerklePaths. -/
def mosaiclaw03_MerklePaths.Pure : Prop := ∀ (l0 : List ByteArray) (a1 : Int), ((l0 : List ByteArray).length ≤ maxLen ∧ ∀ x1_ ∈ (l0 : List ByteArray), (x1_ : ByteArray).size ≤ maxLen) → ((Lit.int .i64 a1).wf = true) → ∃ k, mosaiclaw03_MerklePaths.f k l0 a1 = some true
end Go.Proofs.Ytelcaepenfjloaa.Print
/-! #### Pr47 -/
-- By the kit's print, called by a program of this session with functions that are proved by hand.
namespace Go.Proofs.Ytelcaepenfjloaa.Print
open Go.RowKit Go.Proofs.YtelcaepenfjloaaW.PrintWords Go.Proofs.YtelcaepenfjloaaW.PrintLast Go.Proofs.YtelcaepenfjloaaW.PrintMore
attribute [local go_sem] max2_int min2_int max_two min_two max_three min_three max_four min_four
set_option linter.unusedVariables false
set_option linter.unusedSimpArgs false

/-! ### mosaicref03_Root: function 47 -/
def mosaicref03_Root.f (k : Nat) (l0 : List ByteArray) : Option (ByteArray × Int) := (mosaicref03_May.f k l0).bind fun t315 => (if t315 = 0 then ((mosaicref03_Top.f k l0).bind fun t316 => (some (t316, 0))) else (some ((⟨#[]⟩ : ByteArray), t315)))
theorem mosaicref03_Root.mono : ∀ a0 k, LeO (mosaicref03_Root.f k a0) (mosaicref03_Root.f (k + 1) a0) := by
 intro a0 k
 unfold mosaicref03_Root.f
 repeat' first
   | (with_reducible exact mosaicref03_May.mono _ _)
   | (with_reducible exact mosaicref03_Top.mono _ _)
   | (with_reducible exact LeO.refl _)
   | (with_reducible exact LeO.none _)
   | (with_reducible refine LeO.ite ?_ ?_)
   | (with_reducible refine LeO.bind ?_ (fun _ => ?_))
   | exact mosaicref03_May.mono _ _
   | exact mosaicref03_Top.mono _ _
   | exact LeO.none _
   | refine LeO.ite ?_ ?_
   | refine LeO.bind ?_ (fun _ => ?_)
set_option maxHeartbeats 8000000 in
set_option maxRecDepth 100000 in
theorem mosaicref03_Root.calls (k : Nat) (A0 : Option Addr) (c0 : Nat) (l0 : List ByteArray) (r1 : ByteArray) (r2 : Int) (w : World) (hr0 : Kd.C Kd.string w A0 l0.length l0) (hc0 : l0.length ≤ c0) (h : mosaicref03_Root.f k l0 = some (r1, r2)) :
  Calls Try.prog 47 #[.slice A0 l0.length c0] w fun e w' => e = .returned (.tuple #[.string r1, .int .i64 r2]) ∧ Below w.heap.size w w' := by
 have HR0 := Aside0.mk hr0
 have HC0 := Aside0.mk hc0
 clear hr0 hc0
 have HB := Aside0.mk (Below.refl w.heap.size w)
 have H : ((mosaicref03_May.f k l0).bind fun t315 => (if t315 = 0 then ((mosaicref03_Top.f k l0).bind fun t316 => (some (t316, 0))) else (some ((⟨#[]⟩ : ByteArray), t315)))) = some (r1, r2) := h
 clear h
 replace H := Option.bind_eq_some_iff.mp H
 obtain ⟨t315, A20, H⟩ := H
 replace H : (if t315 = 0 then ((mosaicref03_Top.f k l0).bind fun t316 => (some (t316, 0))) else (some ((⟨#[]⟩ : ByteArray), t315))) = some (r1, r2) := H
 have A2 := Aside0.mk A20
 clear A20
 by_cases c3 : t315 = 0
 ·
  rw [if_pos c3] at H
  have c3b0 : (t315 == 0) = true := beq_iff_eq.mpr c3
  have c3b1 : (t315 != 0) = false := bne_eq_false_iff_eq.mpr c3
  clear c3
  replace H := Option.bind_eq_some_iff.mp H
  obtain ⟨t316, A40, H⟩ := H
  replace H : (some (t316, 0)) = some (r1, r2) := H
  have A4 := Aside0.mk A40
  clear A40
  simp only [Option.some.injEq, Prod.mk.injEq] at H
  obtain ⟨rfl, rfl⟩ := H
  go_enter Try.func47, Try.ntmps47
  go_wp2_with (first | ((with_reducible refine gate_callee (f := 94) rfl ?_); refine goesL_ (some 6) rfl rfl Try.func94 (by kernel_rfl) rfl #[.slice A0 l0.length c0] rfl (by (try simp only [List.map_toArray, List.map_cons, List.map_nil]); first | done | rfl | (simp only [List.length_drop, List.length_take]; rfl)) ?_; (with_reducible refine (mosaicref03_May.calls k _ _ l0 t315 _ ?side1 ?side2 A2.out).mono ?_); (case side1 => repeat (first | exact HR0.out | (with_reducible refine Kd.C_alloc ?_ _) | (with_reducible refine Kd.C_drewN ?_ _) | (with_reducible refine Kd.C_drew ?_))); (case side2 => exact HC0.out); rintro e w' ⟨rfl, ⟨nd, rfl⟩⟩; refine ⟨_, rfl, ?_⟩) | ((with_reducible refine gate_callee (f := 95) rfl ?_); refine goesL_ (some 11) rfl rfl Try.func95 (by kernel_rfl) rfl #[.slice A0 l0.length c0] rfl (by (try simp only [List.map_toArray, List.map_cons, List.map_nil]); first | done | rfl | (simp only [List.length_drop, List.length_take]; rfl)) ?_; (with_reducible refine (mosaicref03_Top.calls k _ _ l0 t316 _ ?side1 ?side2 A4.out).mono ?_); (case side1 => repeat (first | exact HR0.out | (with_reducible refine Kd.C_alloc ?_ _) | (with_reducible refine Kd.C_drewN ?_ _) | (with_reducible refine Kd.C_drew ?_))); (case side2 => exact HC0.out); rintro e w5 ⟨rfl, hb⟩; refine ⟨_, rfl, ?_⟩; have n0_ := Aside0.mk (below_step (by repeat (first | (with_reducible first | exact HB.out | apply below_alloc | apply pw_below_drewN | apply below_drew1) | exact HB.out)) hb); clear HB; have HB := n0_; clear n0_; (try clear hb); (try clear hb2); (try clear hk); (try clear hi)))
  go_ret2
  exact ⟨by first | rfl | (simp [errW_none, errW_some] <;> rfl) | (simp [*, errW_none, errW_some] <;> rfl), by repeat (first | (with_reducible first | exact HB.out | apply below_alloc | apply pw_below_drewN | apply below_drew1) | exact HB.out)⟩
 ·
  rw [if_neg c3] at H
  have c3b0 : (t315 == 0) = false := beq_eq_false_iff_ne.mpr c3
  have c3b1 : (t315 != 0) = true := bne_iff_ne.mpr c3
  simp only [Option.some.injEq, Prod.mk.injEq] at H
  obtain ⟨rfl, rfl⟩ := H
  go_enter Try.func47, Try.ntmps47
  go_wp2_with (first | ((with_reducible refine gate_callee (f := 94) rfl ?_); refine goesL_ (some 6) rfl rfl Try.func94 (by kernel_rfl) rfl #[.slice A0 l0.length c0] rfl (by (try simp only [List.map_toArray, List.map_cons, List.map_nil]); first | done | rfl | (simp only [List.length_drop, List.length_take]; rfl)) ?_; (with_reducible refine (mosaicref03_May.calls k _ _ l0 t315 _ ?side1 ?side2 A2.out).mono ?_); (case side1 => repeat (first | exact HR0.out | (with_reducible refine Kd.C_alloc ?_ _) | (with_reducible refine Kd.C_drewN ?_ _) | (with_reducible refine Kd.C_drew ?_))); (case side2 => exact HC0.out); rintro e w' ⟨rfl, ⟨nd, rfl⟩⟩; refine ⟨_, rfl, ?_⟩))
  go_ret2
  exact ⟨by first | rfl | (simp [errW_none, errW_some] <;> rfl) | (simp [*, errW_none, errW_some] <;> rfl), by repeat (first | (with_reducible first | exact HB.out | apply below_alloc | apply pw_below_drewN | apply below_drew1) | exact HB.out)⟩

end Go.Proofs.Ytelcaepenfjloaa.Print
/-! #### Pr56 -/
-- By the kit's print, called by a program of this session with functions that are proved by hand.
namespace Go.Proofs.Ytelcaepenfjloaa.Print
open Go.RowKit Go.Proofs.YtelcaepenfjloaaW.PrintWords Go.Proofs.YtelcaepenfjloaaW.PrintLast Go.Proofs.YtelcaepenfjloaaW.PrintMore
attribute [local go_sem] max2_int min2_int max_two min_two max_three min_three max_four min_four
set_option linter.unusedVariables false
set_option linter.unusedSimpArgs false

/-! ### mosaicref03_Depth: function 56 -/
mutual
def mosaicref03_Depth.j0 : Nat → Int → Int → Bool → Option (Int)
 | 0, _, _, _ => none
 | k + 1, x0, x1, x21 => if x21 = true then (some (-1)) else (mosaicref03_Depth.l0 k x0 x1 0)
def mosaicref03_Depth.l0 : Nat → Int → Int → Int → Option (Int)
 | 0, _, _, _ => none
 | k + 1, x0, x1, x5 => if x0 > 1 then ((mosaicref03_half.f k x0).bind fun t375 => (if x1 < t375 then (mosaicref03_Depth.l0 k t375 x1 (wrap64 (x5 + 1))) else (mosaicref03_Depth.l0 k (wrap64 (x0 - t375)) (wrap64 (x1 - t375)) (wrap64 (x5 + 1))))) else (some x5)
end
def mosaicref03_Depth.f (k : Nat) (a0 : Int) (a1 : Int) : Option (Int) := if a0 < 1 then (mosaicref03_Depth.j0 k a0 a1 true) else (if a0 > 256 then (mosaicref03_Depth.j0 k a0 a1 true) else (if a1 < 0 then (mosaicref03_Depth.j0 k a0 a1 true) else (mosaicref03_Depth.j0 k a0 a1 (decide (a1 ≥ a0)))))
theorem mosaicref03_Depth.mono_l : ∀ k, (∀ y0 y1 y2, LeO (mosaicref03_Depth.j0 k y0 y1 y2) (mosaicref03_Depth.j0 (k + 1) y0 y1 y2)) ∧ (∀ y0 y1 y2, LeO (mosaicref03_Depth.l0 k y0 y1 y2) (mosaicref03_Depth.l0 (k + 1) y0 y1 y2))
 | 0 => ⟨fun _ _ _ r h => by simp [mosaicref03_Depth.j0] at h, fun _ _ _ r h => by simp [mosaicref03_Depth.l0] at h⟩
 | k + 1 => by
  obtain ⟨ih0, ih1⟩ := mosaicref03_Depth.mono_l k
  refine ⟨?_, ?_⟩
  ·
   intro y0 y1 y2
   unfold mosaicref03_Depth.j0
   repeat' first
   | (with_reducible exact ih0 _ _ _)
   | (with_reducible exact ih1 _ _ _)
   | (with_reducible exact mosaicref03_half.mono _ _)
   | (with_reducible exact LeO.refl _)
   | (with_reducible exact LeO.none _)
   | (with_reducible refine LeO.ite ?_ ?_)
   | (with_reducible refine LeO.bind ?_ (fun _ => ?_))
   | exact ih0 _ _ _
   | exact ih1 _ _ _
   | exact mosaicref03_half.mono _ _
   | exact LeO.none _
   | refine LeO.ite ?_ ?_
   | refine LeO.bind ?_ (fun _ => ?_)
  ·
   intro y0 y1 y2
   unfold mosaicref03_Depth.l0
   repeat' first
   | (with_reducible exact ih0 _ _ _)
   | (with_reducible exact ih1 _ _ _)
   | (with_reducible exact mosaicref03_half.mono _ _)
   | (with_reducible exact LeO.refl _)
   | (with_reducible exact LeO.none _)
   | (with_reducible refine LeO.ite ?_ ?_)
   | (with_reducible refine LeO.bind ?_ (fun _ => ?_))
   | exact ih0 _ _ _
   | exact ih1 _ _ _
   | exact mosaicref03_half.mono _ _
   | exact LeO.none _
   | refine LeO.ite ?_ ?_
   | refine LeO.bind ?_ (fun _ => ?_)
theorem mosaicref03_Depth.mono : ∀ a0 a1 k, LeO (mosaicref03_Depth.f k a0 a1) (mosaicref03_Depth.f (k + 1) a0 a1) := by
 intro a0 a1 k
 obtain ⟨ih0, ih1⟩ := mosaicref03_Depth.mono_l k
 unfold mosaicref03_Depth.f
 repeat' first
   | (with_reducible exact ih0 _ _ _)
   | (with_reducible exact ih1 _ _ _)
   | (with_reducible exact mosaicref03_half.mono _ _)
   | (with_reducible exact LeO.refl _)
   | (with_reducible exact LeO.none _)
   | (with_reducible refine LeO.ite ?_ ?_)
   | (with_reducible refine LeO.bind ?_ (fun _ => ?_))
   | exact ih0 _ _ _
   | exact ih1 _ _ _
   | exact mosaicref03_half.mono _ _
   | exact LeO.none _
   | refine LeO.ite ?_ ?_
   | refine LeO.bind ?_ (fun _ => ?_)
set_option maxHeartbeats 8000000 in
set_option maxRecDepth 100000 in
theorem mosaicref03_Depth.calls (k : Nat) (a0 : Int) (a1 : Int) (r : Int) (w : World) (h : mosaicref03_Depth.f k a0 a1 = some r) :
  Calls Try.prog 56 #[.int .i64 a0, .int .i64 a1] w fun e w' => e = .returned (.int .i64 r) ∧ Drawn0 w w' := by
 have H : (if a0 < 1 then (mosaicref03_Depth.j0 k a0 a1 true) else (if a0 > 256 then (mosaicref03_Depth.j0 k a0 a1 true) else (if a1 < 0 then (mosaicref03_Depth.j0 k a0 a1 true) else (mosaicref03_Depth.j0 k a0 a1 (decide (a1 ≥ a0)))))) = some r := h
 clear h
 have HC3 := Aside0.mk H
 clear H
 go_enter Try.func56, Try.ntmps56
 go_upto_region 1 with (fail)
 go_cut [21] (fun v21 wc => ∃ (kq : Nat) (x21_2 : Bool), v21 = .bool x21_2 ∧ Aside0 (mosaicref03_Depth.j0 kq a0 a1 x21_2 = some r) ∧ Aside0 (kq ≤ k) ∧ Drawn0 w wc)
 case first =>
  have H := HC3.out
  clear HC3
  by_cases c4 : a0 < 1
  ·
   rw [if_pos c4] at H
   have c4b0 : decide (a0 < 1) = true := decide_eq_true c4
   clear c4
   (first | rw [c4b0] | (simp only [i64_w, i32_w]; rw [c4b0]) | skip)
   have H' := Aside0.mk H
   clear H
   go_wp2
   go_meet
   case rel => exact ⟨_, (true), (by first | rfl | (simp; done) | (simp [*]; done)), H', ⟨by first | omega | exact Nat.le_refl _⟩, by repeat (first | exact Drawn0.refl _ | apply Drawn0.step)⟩
  ·
   rw [if_neg c4] at H
   have c4b0 : decide (a0 < 1) = false := decide_eq_false c4
   clear c4
   (first | rw [c4b0] | (simp only [i64_w, i32_w]; rw [c4b0]) | skip)
   by_cases c5 : a0 > 256
   ·
    rw [if_pos c5] at H
    have c5b0 : decide (256 < a0) = true := decide_eq_true c5
    clear c5
    have H' := Aside0.mk H
    clear H
    go_wp2
    go_meet
    case rel => exact ⟨_, (true), (by first | rfl | (simp; done) | (simp [*]; done)), H', ⟨by first | omega | exact Nat.le_refl _⟩, by repeat (first | exact Drawn0.refl _ | apply Drawn0.step)⟩
   ·
    rw [if_neg c5] at H
    have c5b0 : decide (256 < a0) = false := decide_eq_false c5
    clear c5
    by_cases c6 : a1 < 0
    ·
     rw [if_pos c6] at H
     have c6b0 : decide (a1 < 0) = true := decide_eq_true c6
     clear c6
     have H' := Aside0.mk H
     clear H
     go_wp2
     go_meet
     case rel => exact ⟨_, (true), (by first | rfl | (simp; done) | (simp [*]; done)), H', ⟨by first | omega | exact Nat.le_refl _⟩, by repeat (first | exact Drawn0.refl _ | apply Drawn0.step)⟩
    ·
     rw [if_neg c6] at H
     have c6b0 : decide (a1 < 0) = false := decide_eq_false c6
     clear c6
     have H' := Aside0.mk H
     clear H
     go_wp2
     go_meet
     case rel => exact ⟨_, (decide (a1 ≥ a0)), (by first | rfl | (simp; done) | (simp [*]; done)), H', ⟨by first | omega | exact Nat.le_refl _⟩, by repeat (first | exact Drawn0.refl _ | apply Drawn0.step)⟩
 case rest =>
  clear HC3
  try clear p2
  try clear c4
  try clear c4b0
  try clear c5
  try clear c5b0
  try clear c6
  try clear c6b0
  obtain ⟨kq, x21_2, rfl, HA, HJ2, ⟨mc2, rfl⟩⟩ := hcut
  cases kq with
  | zero => exact absurd HA.out (by simp [mosaicref03_Depth.j0])
  | succ kj2 =>
   have H := HA.out
   clear HA
   simp only [mosaicref03_Depth.j0] at H
   by_cases c7 : x21_2 = true
   ·
    subst c7
    have H1 : (some (-1)) = some r := by rw [if_pos rfl] at H; exact H
    clear H
    have H := H1
    clear H1
    obtain rfl := Option.some.inj H
    go_wp2
    go_ret
    exact ⟨by first | rfl | (simp; done) | (simp [*]; done), by repeat (first | exact Drawn0.refl _ | apply Drawn0.step)⟩
   ·
    replace c7 := Bool.eq_false_iff.mpr c7
    subst c7
    have H1 : (mosaicref03_Depth.l0 kj2 a0 a1 0) = some r := by rw [if_neg (show ¬ (false = true) by decide)] at H; exact H
    clear H
    have H := H1
    clear H1
    have H' := Aside0.mk H
    clear H
    go_wp2
    go_loopg [0, 1, 5] kj2 (fun kq v0 v1 v5 w' => ∃ (x0_2 : Int) (x1_2 : Int) (x5_2 : Int), v0 = .int .i64 x0_2 ∧ v1 = .int .i64 x1_2 ∧ v5 = .int .i64 x5_2 ∧ Aside0 (mosaicref03_Depth.l0 kq x0_2 x1_2 x5_2 = some r) ∧ Aside0 (kq ≤ kj2) ∧ Drawn0 w w')
    case atStart => exact ⟨(a0), (a1), (0), (by first | rfl | (simp; done) | (simp [*]; done)), (by first | rfl | (simp; done) | (simp [*]; done)), (by first | rfl | (simp; done) | (simp [*]; done)), H', ⟨Nat.le_refl _⟩, by repeat (first | exact Drawn0.refl _ | apply Drawn0.step)⟩
    case round =>
     clear H'
     try clear c2
     try clear p2
     try clear c4
     try clear c4b0
     try clear c5
     try clear c5b0
     try clear c6
     try clear c6b0
     try clear c7
     try clear p2
     obtain ⟨x0_2, x1_2, x5_2, rfl, rfl, rfl, HA, HK2, ⟨m2, rfl⟩⟩ := hrel
     cases gk with
     | zero => exact absurd HA.out (by simp [mosaicref03_Depth.l0])
     | succ k2 =>
      have H := HA.out
      clear HA
      simp only [mosaicref03_Depth.l0] at H
      by_cases c8 : x0_2 > 1
      ·
       rw [if_pos c8] at H
       have c8b0 : decide (1 < x0_2) = true := decide_eq_true c8
       clear c8
       replace H := Option.bind_eq_some_iff.mp H
       obtain ⟨t375, A90, H⟩ := H
       replace H : (if x1_2 < t375 then (mosaicref03_Depth.l0 k2 t375 x1_2 (wrap64 (x5_2 + 1))) else (mosaicref03_Depth.l0 k2 (wrap64 (x0_2 - t375)) (wrap64 (x1_2 - t375)) (wrap64 (x5_2 + 1)))) = some r := H
       have A9 := Aside0.mk A90
       clear A90
       by_cases c10 : x1_2 < t375
       ·
        rw [if_pos c10] at H
        have c10b0 : decide (x1_2 < t375) = true := decide_eq_true c10
        clear c10
        have H' := Aside0.mk H
        clear H
        go_wp2_with (first | ((with_reducible refine gate_callee (f := 99) rfl ?_); refine goesL_ (some 25) rfl rfl Try.func99 (by kernel_rfl) rfl #[.int .i64 x0_2] rfl (by (try simp only [List.map_toArray, List.map_cons, List.map_nil]); first | done | rfl | (simp only [List.length_drop, List.length_take]; rfl)) ?_; (with_reducible refine (mosaicref03_half.calls k2 x0_2 t375 _ A9.out).mono ?_); rintro e w' ⟨rfl, ⟨nd, rfl⟩⟩; refine ⟨_, rfl, ?_⟩))
        go_roundg k2
        case measure => have := HJ2.out; have := HK2.out; omega
        case rel => exact ⟨(t375), (x1_2), (wrap64 (x5_2 + 1)), (by first | rfl | (simp; done) | (simp [*]; done)), (by first | rfl | (simp; done) | (simp [*]; done)), (by first | rfl | (simp; done) | (simp [*]; done)), H', ⟨by have := HJ2.out; have := HK2.out; omega⟩, by repeat (first | exact Drawn0.refl _ | apply Drawn0.step)⟩
       ·
        rw [if_neg c10] at H
        have c10b0 : decide (x1_2 < t375) = false := decide_eq_false c10
        clear c10
        have H' := Aside0.mk H
        clear H
        go_wp2_with (first | ((with_reducible refine gate_callee (f := 99) rfl ?_); refine goesL_ (some 25) rfl rfl Try.func99 (by kernel_rfl) rfl #[.int .i64 x0_2] rfl (by (try simp only [List.map_toArray, List.map_cons, List.map_nil]); first | done | rfl | (simp only [List.length_drop, List.length_take]; rfl)) ?_; (with_reducible refine (mosaicref03_half.calls k2 x0_2 t375 _ A9.out).mono ?_); rintro e w' ⟨rfl, ⟨nd, rfl⟩⟩; refine ⟨_, rfl, ?_⟩))
        go_roundg k2
        case measure => have := HJ2.out; have := HK2.out; omega
        case rel => exact ⟨(wrap64 (x0_2 - t375)), (wrap64 (x1_2 - t375)), (wrap64 (x5_2 + 1)), (by first | rfl | (simp; done) | (simp [*]; done)), (by first | rfl | (simp; done) | (simp [*]; done)), (by first | rfl | (simp; done) | (simp [*]; done)), H', ⟨by have := HJ2.out; have := HK2.out; omega⟩, by repeat (first | exact Drawn0.refl _ | apply Drawn0.step)⟩
      ·
       rw [if_neg c8] at H
       have c8b0 : decide (1 < x0_2) = false := decide_eq_false c8
       clear c8
       obtain rfl := Option.some.inj H
       go_wp2
       go_ret
       exact ⟨by first | rfl | (simp; done) | (simp [*]; done), by repeat (first | exact Drawn0.refl _ | apply Drawn0.step)⟩

end Go.Proofs.Ytelcaepenfjloaa.Print
/-! #### PureMer1 -/
/- Trees of sums in plain words: the levels' pairs come to the root that halves come to; paths and their lengths. -/
namespace Go.Proofs.Ytelcaepenfjloaa.Pure
open Go.RowKit Go.Proofs.Ytelcaepenfjloaa.Print Go.Proofs.YtelcaepenfjloaaW.PrintWords Go.Proofs.YtelcaepenfjloaaW.PrintLast Go.Proofs.YtelcaepenfjloaaW.PrintMore
set_option linter.unusedVariables false
set_option linter.unusedSimpArgs false

def leafT (s : ByteArray) : ByteArray := (⟨#[0]⟩ : ByteArray) ++ s
def knotT (l r : ByteArray) : ByteArray := ((⟨#[1]⟩ : ByteArray) ++ l) ++ r
def leafD (s : ByteArray) : ByteArray := shaSum (leafT s)
def knotD (l r : ByteArray) : ByteArray := shaSum (knotT l r)
theorem leafT_size (s : ByteArray) : (leafT s).size = 1 + s.size := by
  rw [leafT, ByteArray.size_append]
  rfl
theorem knotT_size (l r : ByteArray) : (knotT l r).size = 1 + l.size + r.size := by
  rw [knotT, ByteArray.size_append, ByteArray.size_append]
  rfl
theorem leafD_size (s : ByteArray) : (leafD s).size = 32 := shaSum_size _
theorem knotD_size (l r : ByteArray) : (knotD l r).size = 32 := shaSum_size _
theorem leaf_f (s : ByteArray) (h : s.size ≤ 65535) : merkle_Leaf.f s = some (leafD s) := by
  have hz := leafT_size s
  unfold merkle_Leaf.f
  rw [if_pos (by omega)]
  show (sha_Sum.f (leafT s)).bind _ = _
  rw [sha_f _ (by omega)]
  rfl
theorem knot_f (l r : ByteArray) (h : l.size + r.size ≤ 65535) : merkle_knot.f l r = some (knotT l r) := by
  have h1 : ((⟨#[1]⟩ : ByteArray) ++ l).size = 1 + l.size := by
    rw [ByteArray.size_append]
    rfl
  unfold merkle_knot.f
  rw [if_pos (by omega), if_pos (by omega)]
  rfl
theorem Knot_f (l r : ByteArray) (h : l.size + r.size ≤ 65535) : merkle_Knot.f l r = some (knotD l r) := by
  have hz := knotT_size l r
  unfold merkle_Knot.f
  rw [knot_f l r h]
  simp only [Option.bind_some]
  rw [sha_f _ (by omega)]
  rfl
theorem leafText_f (s : ByteArray) (h : s.size ≤ 65535) : mosaicref03_LeafText.f s = some (leafT s) := by
  unfold mosaicref03_LeafText.f
  rw [if_pos (by omega)]
  rfl
theorem knotText_f (l r : ByteArray) (h : l.size + r.size ≤ 65535) : mosaicref03_KnotText.f l r = some (knotT l r) := by
  have h1 : ((⟨#[1]⟩ : ByteArray) ++ l).size = 1 + l.size := by
    rw [ByteArray.size_append]
    rfl
  unfold mosaicref03_KnotText.f
  rw [if_pos (by omega), if_pos (by omega)]
  rfl

/-! ### Halves -/
def halfN (n : Nat) : Nat := 2 ^ (n - 1).log2
theorem halfN_lt (n : Nat) (h : 2 ≤ n) : halfN n < n := by
  have := Nat.log2_self_le (show n - 1 ≠ 0 by omega)
  unfold halfN
  omega
theorem halfN_pos (n : Nat) : 1 ≤ halfN n := Nat.one_le_two_pow
theorem halfN_ge (n : Nat) : n ≤ 2 * halfN n := by
  have := Nat.lt_log2_self (n := n - 1)
  rw [Nat.pow_succ] at this
  unfold halfN
  omega
theorem halfN_two (n : Nat) (h : 3 ≤ n) : halfN n = 2 * halfN ((n + 1) / 2) := by
  unfold halfN
  rw [show (n + 1) / 2 - 1 = (n - 1) / 2 by omega]
  conv => lhs; rw [Nat.log2_def, if_pos (by omega), Nat.pow_succ]
  omega
theorem half_l0 (n : Nat) (h : 2 ≤ n) (hn : n ≤ 100000) (d : Nat) : ∀ j : Nat, j + d = (n - 1).log2 → Ev (fun k => mosaicref03_half.l0 k (n : Int) ((2 ^ j : Nat) : Int)) ((halfN n : Nat) : Int) := by
  have hlt := halfN_lt n h
  have hge := halfN_ge n
  induction d with
  | zero =>
    intro j hj
    have e : halfN n = 2 ^ j := by unfold halfN; rw [← hj]; rfl
    refine Ev.succ ?_
    simp only [mosaicref03_half.l0]
    generalize 2 ^ j = x at e ⊢
    have w : wrap64 ((x : Int) * 2) = (x : Int) * 2 := by unfold wrap64; omega
    rw [w]
    exact Ev.neg (by omega) (Ev.some_ (by rw [e]))
  | succ d ih =>
    intro j hj
    have := ih (j + 1) (by omega)
    have hle : 2 ^ (j + 1) ≤ halfN n := Nat.pow_le_pow_right (by decide) (by omega)
    rw [Nat.pow_succ] at this hle
    refine Ev.succ ?_
    simp only [mosaicref03_half.l0]
    generalize 2 ^ j = x at this hle ⊢
    have w : wrap64 ((x : Int) * 2) = ((x * 2 : Nat) : Int) := by unfold wrap64; omega
    rw [w]
    exact Ev.pos (by omega) this
theorem half_ev (n : Nat) (h : 2 ≤ n) (hn : n ≤ 100000) : Ev (fun k => mosaicref03_half.f k (n : Int)) ((halfN n : Nat) : Int) := half_l0 n h hn _ 0 (Nat.zero_add _)

/-! ### Pairs -/
def pairsM : List ByteArray → List ByteArray
  | [] => []
  | [a] => [a]
  | a :: b :: l => knotD a b :: pairsM l
theorem pairsM_length : ∀ l : List ByteArray, (pairsM l).length = (l.length + 1) / 2
  | [] => by simp [pairsM]
  | [_] => by simp [pairsM]
  | _ :: _ :: l => by
    rw [pairsM, List.length_cons, pairsM_length l]
    simp
    omega
theorem pairsM_append : ∀ a b : List ByteArray, a.length % 2 = 0 → pairsM (a ++ b) = pairsM a ++ pairsM b
  | [], _, _ => rfl
  | [_], _, h => by simp at h
  | x :: y :: a, b, h => by
    show knotD x y :: pairsM (a ++ b) = _
    rw [pairsM_append a b (by simp at h; omega)]
    rfl
theorem pairsM_size : ∀ l : List ByteArray, (∀ x ∈ l, x.size = 32) → ∀ x ∈ pairsM l, x.size = 32
  | [], _, x, h => by simp [pairsM] at h
  | [a], h, x, hx => h x hx
  | a :: b :: l, h, x, hx => by
    rcases List.mem_cons.1 hx with rfl | hx
    · exact knotD_size _ _
    · exact pairsM_size l (fun y hy => h y (by simp [hy])) x hx

/-! ### The root, by halves -/
def topM (l : List ByteArray) : ByteArray :=
  if h : l.length ≤ 1 then l.headD ByteArray.empty
  else knotD (topM (l.take (halfN l.length))) (topM (l.drop (halfN l.length)))
termination_by l.length
decreasing_by
  · have := halfN_lt l.length (by omega)
    rw [List.length_take]
    omega
  · have := halfN_pos l.length
    rw [List.length_drop]
    omega
theorem topM_one (a : ByteArray) : topM [a] = a := by
  rw [topM]
  rfl
theorem topM_two (l : List ByteArray) (h : 2 ≤ l.length) : topM l = knotD (topM (l.take (halfN l.length))) (topM (l.drop (halfN l.length))) := by
  conv => lhs; rw [topM]
  rw [dif_neg (by omega)]
theorem list1 (l : List ByteArray) (h : l.length = 1) : ∃ a, l = [a] := by
  match l, h with
  | [a], _ => exact ⟨a, rfl⟩
theorem list2 (l : List ByteArray) (h : l.length = 2) : ∃ a b, l = [a, b] := by
  match l, h with
  | [a, b], _ => exact ⟨a, b, rfl⟩
theorem halfN_2 : halfN 2 = 1 := by decide
/-- A level's pairs, cut where the level is cut. -/
theorem pairs_cut (l : List ByteArray) (h : 3 ≤ l.length) : (pairsM l).take (halfN (pairsM l).length) = pairsM (l.take (halfN l.length)) ∧ (pairsM l).drop (halfN (pairsM l).length) = pairsM (l.drop (halfN l.length)) := by
  have h2 := halfN_two l.length h
  have hlt := halfN_lt l.length (by omega)
  have e : pairsM l = pairsM (l.take (halfN l.length)) ++ pairsM (l.drop (halfN l.length)) := by
    rw [← pairsM_append _ _ (by rw [List.length_take]; omega), List.take_append_drop]
  have hl : (pairsM (l.take (halfN l.length))).length = halfN (pairsM l).length := by
    rw [pairsM_length, pairsM_length, List.length_take]
    omega
  constructor
  · rw [← hl]
    conv => lhs; rw [e]
    exact List.take_left
  · rw [← hl]
    conv => lhs; rw [e]
    exact List.drop_left
theorem pairs_top (n : Nat) : ∀ l : List ByteArray, l.length = n → 1 ≤ n → topM (pairsM l) = topM l := by
  induction n using Nat.strongRecOn with
  | _ n ih =>
    intro l hl hn
    by_cases h1 : n = 1
    · obtain ⟨a, rfl⟩ := list1 l (by omega)
      rfl
    by_cases h2 : n = 2
    · obtain ⟨a, b, rfl⟩ := list2 l (by omega)
      rw [topM_two [a, b] (by simp)]
      show topM [knotD a b] = knotD (topM ([a, b].take (halfN 2))) (topM ([a, b].drop (halfN 2)))
      rw [halfN_2]
      show topM [knotD a b] = knotD (topM [a]) (topM [b])
      rw [topM_one, topM_one, topM_one]
    have hlt := halfN_lt l.length (by omega)
    have hps := halfN_pos l.length
    obtain ⟨e1, e2⟩ := pairs_cut l (by omega)
    rw [topM_two (pairsM l) (by rw [pairsM_length]; omega), e1, e2, ih (l.take (halfN l.length)).length (by rw [List.length_take]; omega) _ rfl (by rw [List.length_take]; omega),
      ih (l.drop (halfN l.length)).length (by rw [List.length_drop]; omega) _ rfl (by rw [List.length_drop]; omega), topM_two l (by omega)]

/-! ### The path of a leaf -/
def sib (i : Nat) : Nat := if i % 2 = 0 then i + 1 else i - 1
theorem sib_xor (i : Nat) (h : i < 256) : Go.bits .xor .i64 (i : Int) 1 = (sib i : Int) := by
  have : ∀ i : Fin 256, Go.bits .xor .i64 (i.val : Int) 1 = (sib i.val : Int) := by decide +kernel
  exact this ⟨i, h⟩
def wayM (l : List ByteArray) (i : Nat) : List ByteArray :=
  if h : l.length ≤ 1 then []
  else if i < halfN l.length then wayM (l.take (halfN l.length)) i ++ [topM (l.drop (halfN l.length))]
  else wayM (l.drop (halfN l.length)) (i - halfN l.length) ++ [topM (l.take (halfN l.length))]
termination_by l.length
decreasing_by
  · have := halfN_lt l.length (by omega)
    rw [List.length_take]
    omega
  · have := halfN_pos l.length
    rw [List.length_drop]
    omega
theorem wayM_one (a : ByteArray) (i : Nat) : wayM [a] i = [] := by
  rw [wayM]
  rfl
theorem wayM_left (l : List ByteArray) (i : Nat) (h : 2 ≤ l.length) (hi : i < halfN l.length) : wayM l i = wayM (l.take (halfN l.length)) i ++ [topM (l.drop (halfN l.length))] := by
  conv => lhs; rw [wayM]
  rw [dif_neg (by omega), if_pos hi]
theorem wayM_right (l : List ByteArray) (i : Nat) (h : 2 ≤ l.length) (hi : ¬ i < halfN l.length) : wayM l i = wayM (l.drop (halfN l.length)) (i - halfN l.length) ++ [topM (l.take (halfN l.length))] := by
  conv => lhs; rw [wayM]
  rw [dif_neg (by omega), if_neg hi]
def sibL (l : List ByteArray) (i : Nat) : List ByteArray := if sib i < l.length then [l.getD (sib i) ByteArray.empty] else []
theorem getD_take {α : Type} (l : List α) (k i : Nat) (d : α) (h : i < k) : (l.take k).getD i d = l.getD i d := by
  simp [List.getD_eq_getElem?_getD, List.getElem?_take, h]
theorem getD_drop {α : Type} (l : List α) (k i : Nat) (d : α) : (l.drop k).getD i d = l.getD (k + i) d := by
  simp [List.getD_eq_getElem?_getD, List.getElem?_drop]
theorem way_step (n : Nat) : ∀ (l : List ByteArray) (i : Nat), l.length = n → 2 ≤ n → i < n → wayM l i = sibL l i ++ wayM (pairsM l) (i / 2) := by
  induction n using Nat.strongRecOn with
  | _ n ih =>
    intro l i hl hn hi
    by_cases h2 : n = 2
    · obtain ⟨a, b, rfl⟩ := list2 l (by omega)
      have hh : halfN [a, b].length = 1 := halfN_2
      rcases (by omega : i = 0 ∨ i = 1) with rfl | rfl
      · rw [wayM_left _ _ (by simp) (by rw [hh]; omega), hh]
        show wayM [a] 0 ++ [topM [b]] = [b] ++ wayM [knotD a b] 0
        rw [wayM_one, wayM_one, topM_one]
        rfl
      · rw [wayM_right _ _ (by simp) (by rw [hh]; omega), hh]
        show wayM [b] 0 ++ [topM [a]] = [a] ++ wayM [knotD a b] 0
        rw [wayM_one, wayM_one, topM_one]
        rfl
    have hlt := halfN_lt l.length (by omega)
    have hps := halfN_pos l.length
    have hge := halfN_ge l.length
    have ht := halfN_two l.length (by omega)
    have hpl := pairsM_length l
    have hhp : halfN (pairsM l).length = halfN ((l.length + 1) / 2) := by rw [hpl]
    have hp1 := halfN_pos ((l.length + 1) / 2)
    obtain ⟨e1, e2⟩ := pairs_cut l (by omega)
    have hsib : sib i / 2 = i / 2 := by unfold sib; split <;> omega
    by_cases hc : i < halfN l.length
    · have hsk : sib i < halfN l.length := by unfold sib; split <;> omega
      rw [wayM_left l i (by omega) hc, wayM_left (pairsM l) (i / 2) (by omega) (by omega), e1, e2, pairs_top _ _ rfl (by rw [List.length_drop]; omega)]
      rw [ih (l.take (halfN l.length)).length (by rw [List.length_take]; omega) _ i rfl (by rw [List.length_take]; omega) (by rw [List.length_take]; omega), List.append_assoc]
      congr 1
      unfold sibL
      rw [List.length_take, if_pos (by omega), if_pos (by omega), getD_take _ _ _ _ hsk]
    · rw [wayM_right l i (by omega) hc, wayM_right (pairsM l) (i / 2) (by omega) (by omega), e1, e2, pairs_top _ _ rfl (by rw [List.length_take]; omega)]
      have hs : sib (i - halfN l.length) + halfN l.length = sib i := by
        unfold sib
        split
        · rw [if_pos (by omega)]
          omega
        · rw [if_neg (by omega)]
          omega
      by_cases h1 : (l.drop (halfN l.length)).length = 1
      · obtain ⟨a, ha⟩ := list1 _ h1
        rw [List.length_drop] at h1
        have e0 : i - halfN l.length = 0 := by omega
        have hd : i / 2 - halfN (pairsM l).length = 0 := by omega
        rw [ha, e0, hd]
        show wayM [a] 0 ++ _ = _ ++ (wayM [a] 0 ++ _)
        rw [wayM_one]
        have : sibL l i = [] := by
          unfold sibL
          rw [if_neg]
          have : sib 0 = 1 := rfl
          rw [e0, this] at hs
          omega
        rw [this]
        rfl
      · rw [List.length_drop] at h1
        rw [ih (l.drop (halfN l.length)).length (by rw [List.length_drop]; omega) _ (i - halfN l.length) rfl (by rw [List.length_drop]; omega) (by rw [List.length_drop]; omega), List.append_assoc]
        rw [show (i - halfN l.length) / 2 = i / 2 - halfN (pairsM l).length by omega]
        congr 1
        unfold sibL
        rw [List.length_drop, getD_drop, Nat.add_comm, hs]
        by_cases hz : sib i < l.length
        · rw [if_pos hz, if_pos (by omega)]
        · rw [if_neg hz, if_neg (by omega)]

/-! ### How long a path is -/
def depthM (n i : Nat) : Nat :=
  if h : n ≤ 1 then 0
  else if i < halfN n then depthM (halfN n) i + 1
  else depthM (n - halfN n) (i - halfN n) + 1
termination_by n
decreasing_by
  · exact halfN_lt n (by omega)
  · have := halfN_pos n
    omega
theorem depthM_one (n i : Nat) (h : n ≤ 1) : depthM n i = 0 := by
  rw [depthM, dif_pos h]
theorem depthM_left (n i : Nat) (h : 2 ≤ n) (hi : i < halfN n) : depthM n i = depthM (halfN n) i + 1 := by
  conv => lhs; rw [depthM]
  rw [dif_neg (by omega), if_pos hi]
theorem depthM_right (n i : Nat) (h : 2 ≤ n) (hi : ¬ i < halfN n) : depthM n i = depthM (n - halfN n) (i - halfN n) + 1 := by
  conv => lhs; rw [depthM]
  rw [dif_neg (by omega), if_neg hi]
theorem way_length (n : Nat) : ∀ (l : List ByteArray) (i : Nat), l.length = n → (wayM l i).length = depthM n i := by
  induction n using Nat.strongRecOn with
  | _ n ih =>
    intro l i hl
    by_cases h1 : n ≤ 1
    · rw [depthM_one n i h1, wayM, dif_pos (by omega)]
      rfl
    have hlt := halfN_lt l.length (by omega)
    have hps := halfN_pos l.length
    by_cases hc : i < halfN l.length
    · rw [wayM_left l i (by omega) hc, depthM_left n i (by omega) (by rw [← hl]; exact hc), List.length_append, ih (halfN n) (by rw [← hl]; omega) _ i (by rw [List.length_take, ← hl]; omega)]
      rfl
    · rw [wayM_right l i (by omega) hc, depthM_right n i (by omega) (by rw [← hl]; exact hc), List.length_append, ih (n - halfN n) (by rw [← hl]; omega) _ _ (by rw [List.length_drop, hl]), hl]
      rfl
theorem depth_step (n i : Nat) (h : 2 ≤ n) (hi : i < n) : depthM n i = (if sib i < n then 1 else 0) + depthM ((n + 1) / 2) (i / 2) := by
  have e := way_step n (List.replicate n ByteArray.empty) i (by simp) h hi
  have e2 := congrArg List.length e
  rw [List.length_append, way_length n _ i (by simp), way_length ((n + 1) / 2) _ (i / 2) (by rw [pairsM_length]; simp)] at e2
  rw [e2]
  congr 1
  unfold sibL
  rw [List.length_replicate]
  split <;> rfl
end Go.Proofs.Ytelcaepenfjloaa.Pure
/-! #### PureMer2 -/
/- What the functions on lists of texts come to: digests, levels, roots, paths, lengths of paths; the reference's. -/
namespace Go.Proofs.Ytelcaepenfjloaa.Pure
open Go.RowKit Go.Proofs.Ytelcaepenfjloaa.Print Go.Proofs.YtelcaepenfjloaaW.PrintWords Go.Proofs.YtelcaepenfjloaaW.PrintLast Go.Proofs.YtelcaepenfjloaaW.PrintMore
set_option linter.unusedVariables false
set_option linter.unusedSimpArgs false

theorem rdOf_at (l : List ByteArray) (i : Nat) : rdOf ByteArray.empty l (i : Int) = l.getD i ByteArray.empty := by simp [rdOf]
theorem getD_mem (l : List ByteArray) (i : Nat) (h : i < l.length) : l.getD i ByteArray.empty ∈ l := by
  rw [List.getD_eq_getElem?_getD, List.getElem?_eq_getElem h]
  exact List.getElem_mem h
theorem drop_getD (l : List ByteArray) (i : Nat) (h : i < l.length) : l.drop i = l.getD i ByteArray.empty :: l.drop (i + 1) := by
  rw [List.drop_eq_getElem_cons h, List.getD_eq_getElem?_getD, List.getElem?_eq_getElem h]
  rfl
theorem take_getD (l : List ByteArray) (i : Nat) (h : i < l.length) : l.take (i + 1) = l.take i ++ [l.getD i ByteArray.empty] := by
  rw [List.take_succ_eq_append_getElem h, List.getD_eq_getElem?_getD, List.getElem?_eq_getElem h]
  rfl
theorem digests_l0 (l : List ByteArray) (hl : l.length ≤ 1000) (hs : ∀ s ∈ l, s.size ≤ 65535) (d : Nat) : ∀ i : Nat, i + d = l.length → Ev (fun k => merkle_digests.l0 k ((l.take i).map leafD) l (l.length : Int) (i : Int)) (l.map leafD) := by
  induction d with
  | zero =>
    intro i hi
    refine Ev.succ ?_
    simp only [merkle_digests.l0]
    refine Ev.neg (by omega) (Ev.some_ ?_)
    rw [List.take_of_length_le (by omega)]
  | succ d ih =>
    intro i hi
    refine Ev.succ ?_
    simp only [merkle_digests.l0]
    rw [rdOf_at, leaf_f _ (hs _ (getD_mem l i (by omega))), wrap_succ _ (by omega)]
    have := ih (i + 1) (by omega)
    rw [take_getD l i (by omega), List.map_append] at this
    exact Ev.pos (by omega) (Ev.pos (by omega) (Ev.pos (by omega) (Ev.some_bind (Ev.pos (by simp; omega) this))))
theorem digests_ev (l : List ByteArray) (hl : l.length ≤ 1000) (hs : ∀ s ∈ l, s.size ≤ 65535) : Ev (fun k => merkle_digests.f k l) (l.map leafD) := digests_l0 l hl hs l.length 0 (by omega)
theorem pairs_l0 (l : List ByteArray) (hl : l.length ≤ 1000) (hs : ∀ s ∈ l, s.size = 32) (d : Nat) : ∀ (i : Nat) (acc : List ByteArray), i ≤ l.length → l.length - i = d → acc.length ≤ i → Ev (fun k => merkle_pairs.l0 k l acc (i : Int)) (acc ++ pairsM (l.drop i)) := by
  induction d using Nat.strongRecOn with
  | _ d ih =>
    intro i acc hi hd ha
    refine Ev.succ ?_
    simp only [merkle_pairs.l0]
    have e1 : wrap64 ((i : Int) + 1) = ((i + 1 : Nat) : Int) := wrap_succ i (by omega)
    have e2 : wrap64 ((i : Int) + 2) = ((i + 2 : Nat) : Int) := by unfold wrap64; omega
    rw [e1, e2]
    by_cases h0 : i = l.length
    · refine Ev.neg (by omega) (Ev.some_ ?_)
      rw [List.drop_of_length_le (by omega)]
      simp [pairsM]
    refine Ev.pos (by omega) ?_
    by_cases h1 : i + 1 = l.length
    · have hN : Ev (fun k => merkle_pairs.l0 k l (acc ++ [l.getD i ByteArray.empty]) ((i + 2 : Nat) : Int)) (acc ++ pairsM (l.drop i)) := by
        refine Ev.succ ?_
        simp only [merkle_pairs.l0]
        refine Ev.neg (by omega) (Ev.some_ ?_)
        rw [drop_getD l i (by omega), List.drop_of_length_le (by omega)]
        simp [pairsM]
      rw [rdOf_at]
      exact Ev.pos (by omega) (Ev.pos (by omega) (Ev.pos (by omega) hN))
    · rw [rdOf_at, rdOf_at, Knot_f _ _ (by rw [hs _ (getD_mem l i (by omega)), hs _ (getD_mem l (i + 1) (by omega))]; omega)]
      have := ih (d - 2) (by omega) (i + 2) (acc ++ [knotD (l.getD i ByteArray.empty) (l.getD (i + 1) ByteArray.empty)]) (by omega) (by omega) (by simp; omega)
      refine Ev.neg (by omega) (Ev.pos (by omega) (Ev.pos (by omega) (Ev.pos (by omega) (Ev.some_bind (Ev.pos (by omega) (this.to ?_))))))
      rw [drop_getD l i (by omega), drop_getD l (i + 1) (by omega), pairsM, List.append_assoc]
      rfl
theorem pairs_ev (l : List ByteArray) (hl : l.length ≤ 1000) (hs : ∀ s ∈ l, s.size = 32) : Ev (fun k => merkle_pairs.f k l) (pairsM l) := by
  have := pairs_l0 l hl hs l.length 0 [] (by omega) (by omega) (by simp)
  rw [List.drop_zero, List.nil_append] at this
  exact this
theorem leafs_size (l : List ByteArray) : ∀ x ∈ l.map leafD, x.size = 32 := by
  intro x hx
  obtain ⟨y, _, rfl⟩ := List.mem_map.1 hx
  exact leafD_size y
theorem up_ev (n : Nat) : ∀ l : List ByteArray, l.length = n → 1 ≤ n → n ≤ 1000 → (∀ s ∈ l, s.size = 32) → Ev (fun k => merkle_Root.l0 k l) (topM l, 0) := by
  induction n using Nat.strongRecOn with
  | _ n ih =>
    intro l hl h1 h2 hs
    refine Ev.succ ?_
    simp only [merkle_Root.l0]
    by_cases h : n = 1
    · obtain ⟨a, rfl⟩ := list1 l (by omega)
      refine Ev.pos rfl (Ev.pos (by simp) (Ev.some_ ?_))
      rw [topM_one]
      rfl
    · refine Ev.neg (by omega) (Ev.bind (pairs_ev l (by omega) hs) ?_)
      have hp := pairsM_length l
      rw [← pairs_top n l hl (by omega)]
      exact ih (pairsM l).length (by omega) _ rfl (by omega) (by omega) (pairsM_size l hs)
theorem mayM_zero {l : List ByteArray} (h : mayM l = 0) : 1 ≤ l.length ∧ l.length ≤ 256 ∧ ∀ s ∈ l, s.size ≤ 1024 := by
  unfold mayM at h
  split at h
  · simp at h
  · split at h
    · simp at h
    · split at h
      · simp at h
      · rename_i h1 h2 h3
        refine ⟨by omega, by omega, fun s hs => ?_⟩
        rw [Bool.not_eq_true, List.any_eq_false] at h3
        have := h3 s hs
        unfold longB at this
        simp only [decide_eq_true_eq] at this
        omega
theorem Root_ev (l : List ByteArray) : Ev (fun k => merkle_Root.f k l) (if mayM l = 0 then (topM (l.map leafD), 0) else ((⟨#[]⟩ : ByteArray), mayM l)) := by
  unfold merkle_Root.f
  refine Ev.call (show merkle_may.f l = some (mayM l) from rfl) ?_
  by_cases h : mayM l = 0
  · obtain ⟨h1, h2, h3⟩ := mayM_zero h
    rw [if_pos h]
    exact Ev.pos h (Ev.bind (digests_ev l (by omega) (fun s hs => by have := h3 s hs; omega)) (up_ev (l.map leafD).length _ rfl (by simpa using h1) (by simp; omega) (leafs_size l)))
  · rw [if_neg h]
    exact Ev.neg h (Ev.some_ rfl)
theorem tdiv2 (i : Nat) (h : i < 1000000) : wrap64 (Int.tdiv (i : Int) 2) = ((i / 2 : Nat) : Int) := by
  rw [Int.tdiv_eq_ediv_of_nonneg (by omega)]
  unfold wrap64
  omega
theorem path_l0 (n : Nat) : ∀ (l : List ByteArray) (i : Nat) (acc : List ByteArray), l.length = n → 1 ≤ n → n ≤ 256 → i < n → acc.length + n ≤ 2000 → (∀ s ∈ l, s.size = 32) → Ev (fun k => merkle_Path.l0 k (i : Int) acc l) (acc ++ wayM l i, 0) := by
  induction n using Nat.strongRecOn with
  | _ n ih =>
    intro l i acc hl h1 h2 hi ha hs
    refine Ev.succ ?_
    simp only [merkle_Path.l0]
    by_cases h : n = 1
    · obtain ⟨a, rfl⟩ := list1 l (by omega)
      refine Ev.neg (by simp) (Ev.some_ ?_)
      rw [wayM_one, List.append_nil]
    · have hp := pairsM_length l
      have hsb : sib i ≤ i + 1 := by unfold sib; split <;> omega
      rw [sib_xor i (by omega), tdiv2 i (by omega), rdOf_at, way_step n l i hl (by omega) hi]
      refine Ev.pos (by omega) ?_
      unfold sibL
      by_cases hc : sib i < l.length
      · have := ih (pairsM l).length (by omega) (pairsM l) (i / 2) (acc ++ [l.getD (sib i) ByteArray.empty]) rfl (by omega) (by omega) (by omega) (by simp; omega) (pairsM_size l hs)
        rw [List.append_assoc] at this
        rw [if_pos hc]
        exact Ev.pos (by omega) (Ev.pos (by omega) (Ev.pos (by omega) (Ev.bind (pairs_ev l (by omega) hs) this)))
      · have := ih (pairsM l).length (by omega) (pairsM l) (i / 2) acc rfl (by omega) (by omega) (by omega) (by omega) (pairsM_size l hs)
        rw [if_neg hc]
        exact Ev.neg (by omega) (Ev.bind (pairs_ev l (by omega) hs) this)
def inP (n i : Int) : Bool := decide (1 ≤ n ∧ n ≤ 256 ∧ 0 ≤ i ∧ i < n)
theorem in_f (n i : Int) : merkle_in.f n i = some (inP n i) := by
  unfold merkle_in.f inP
  by_cases a : n ≥ 1
  · rw [if_pos a]
    by_cases b : n ≤ 256
    · rw [if_pos b]
      by_cases c : i ≥ 0
      · rw [if_pos c]
        by_cases d : i < n
        · rw [decide_eq_true d, decide_eq_true (by omega)]
        · rw [decide_eq_false d, decide_eq_false (by omega)]
      · rw [if_neg c, decide_eq_false (by omega)]
    · rw [if_neg b, decide_eq_false (by omega)]
  · rw [if_neg a, decide_eq_false (by omega)]
def pathR (l : List ByteArray) (i : Int) : List ByteArray × Int :=
  if mayM l = 0 then (if inP l.length i = true then (wayM (l.map leafD) i.toNat, 0) else ([], 1)) else ([], mayM l)
theorem Path_ev (l : List ByteArray) (i : Int) : Ev (fun k => merkle_Path.f k l i) (pathR l i) := by
  unfold merkle_Path.f pathR
  refine Ev.call (show merkle_may.f l = some (mayM l) from rfl) ?_
  by_cases h : mayM l = 0
  · obtain ⟨h1, h2, h3⟩ := mayM_zero h
    rw [if_pos h]
    refine Ev.pos h (Ev.call (in_f _ _) ?_)
    by_cases c : inP l.length i = true
    · rw [if_pos c]
      have c' := of_decide_eq_true c
      refine Ev.pos c (Ev.bind (digests_ev l (by omega) (fun s hs => by have := h3 s hs; omega)) ?_)
      have := path_l0 (l.map leafD).length (l.map leafD) i.toNat [] rfl (by simpa using h1) (by simpa using h2) (by simp; omega) (by simp; omega) (leafs_size l)
      rw [show ((i.toNat : Nat) : Int) = i by omega] at this
      exact this
    · rw [if_neg c]
      exact Ev.neg c (Ev.some_ rfl)
  · rw [if_neg h]
    exact Ev.neg h (Ev.some_ rfl)

/-! ### How long a path is -/
theorem depth_one (k : Nat) (n i d : Int) : merkle_Depth.l0 (k + 1) n i d = if n > 1 then (if (Go.bits .xor .i64 i 1) < n then (merkle_Depth.l0 k (wrap64 (Int.tdiv (wrap64 (n + 1)) 2)) (wrap64 (Int.tdiv i 2)) (wrap64 (d + 1))) else (merkle_Depth.l0 k (wrap64 (Int.tdiv (wrap64 (n + 1)) 2)) (wrap64 (Int.tdiv i 2)) d)) else (some d) := rfl
theorem depth_l0 (j : Nat) : ∀ (k n i d : Nat), n ≤ 2 ^ j → i < n → n ≤ 256 → d + n ≤ 2000 → merkle_Depth.l0 (k + j + 1) (n : Int) (i : Int) (d : Int) = some ((d + depthM n i : Nat) : Int) := by
  induction j with
  | zero =>
    intro k n i d h hi hn hd
    have : n = 1 := by simp at h; omega
    subst this
    simp only [merkle_Depth.l0]
    rw [if_neg (by omega), depthM_one _ _ (by omega)]
    rfl
  | succ j ih =>
    intro k n i d h hi hn hd
    by_cases h1 : n = 1
    · subst h1
      simp only [merkle_Depth.l0]
      rw [if_neg (by omega), depthM_one _ _ (by omega)]
      rfl
    · rw [Nat.pow_succ] at h
      have e1 : wrap64 (Int.tdiv (wrap64 ((n : Int) + 1)) 2) = (((n + 1) / 2 : Nat) : Int) := by
        rw [wrap_succ n (by omega), tdiv2 _ (by omega)]
      rw [show k + (j + 1) + 1 = (k + j + 1) + 1 by omega, depth_one, if_pos (by omega), sib_xor i (by omega), e1, tdiv2 i (by omega), wrap_succ d (by omega), depth_step n i (by omega) hi]
      by_cases hc : sib i < n
      · rw [if_pos (by omega), if_pos hc, ih k _ _ _ (by omega) (by omega) (by omega) (by omega)]
        congr 1
        omega
      · rw [if_neg (by omega), if_neg hc, ih k _ _ _ (by omega) (by omega) (by omega) (by omega)]
        congr 1
        omega
def depthR (n i : Int) : Int := if inP n i = true then (depthM n.toNat i.toNat : Int) else -1
theorem Depth_f (k : Nat) (n i : Int) : merkle_Depth.f (k + 9) n i = some (depthR n i) := by
  unfold merkle_Depth.f depthR
  rw [in_f]
  simp only [Option.bind_some]
  by_cases c : inP n i = true
  · rw [if_pos c, if_pos c]
    have c' := of_decide_eq_true c
    have := depth_l0 8 k n.toNat i.toNat 0 (by omega) (by omega) (by omega) (by omega)
    rw [show ((n.toNat : Nat) : Int) = n by omega, show ((i.toNat : Nat) : Int) = i by omega, Nat.zero_add] at this
    exact this
  · rw [if_neg c, if_neg c]
theorem Depth_ev (n i : Int) : Ev (fun k => merkle_Depth.f k n i) (depthR n i) := by
  refine ⟨9, fun k hk => ?_⟩
  obtain ⟨k, rfl⟩ : ∃ m, k = m + 9 := ⟨k - 9, by omega⟩
  exact Depth_f k n i
theorem refdepth_l0 (n : Nat) : ∀ (i d : Nat), 1 ≤ n → n ≤ 1000 → i < n → d + n ≤ 10000 → Ev (fun k => mosaicref03_Depth.l0 k (n : Int) (i : Int) (d : Int)) ((d + depthM n i : Nat) : Int) := by
  induction n using Nat.strongRecOn with
  | _ n ih =>
    intro i d h1 hn hi hd
    refine Ev.succ ?_
    simp only [mosaicref03_Depth.l0]
    by_cases h : n = 1
    · refine Ev.neg (by omega) (Ev.some_ ?_)
      rw [depthM_one _ _ (by omega)]
      rfl
    · have hlt := halfN_lt n (by omega)
      have hps := halfN_pos n
      rw [wrap_succ d (by omega)]
      refine Ev.pos (by omega) (Ev.bind (half_ev n (by omega) (by omega)) ?_)
      by_cases c : i < halfN n
      · have := ih (halfN n) hlt i (d + 1) (by omega) (by omega) c (by omega)
        refine Ev.pos (by omega) (this.to ?_)
        rw [depthM_left n i (by omega) c]
        congr 1
        omega
      · have := ih (n - halfN n) (by omega) (i - halfN n) (d + 1) (by omega) (by omega) (by omega) (by omega)
        have e1 : wrap64 ((n : Int) - (halfN n : Int)) = ((n - halfN n : Nat) : Int) := by unfold wrap64; omega
        have e2 : wrap64 ((i : Int) - (halfN n : Int)) = ((i - halfN n : Nat) : Int) := by unfold wrap64; omega
        rw [e1, e2]
        refine Ev.neg (by omega) (this.to ?_)
        rw [depthM_right n i (by omega) c]
        congr 1
        omega
theorem refDepth_ev (n i : Int) : Ev (fun k => mosaicref03_Depth.f k n i) (depthR n i) := by
  unfold mosaicref03_Depth.f depthR
  have j1 : ∀ b : Bool, b = true → Ev (fun k => mosaicref03_Depth.j0 k n i b) (-1) := by
    rintro b rfl
    refine Ev.succ ?_
    simp only [mosaicref03_Depth.j0]
    exact Ev.pos trivial (Ev.some_ rfl)
  by_cases a : n < 1
  · rw [if_neg (by unfold inP; simp; omega)]
    exact Ev.pos a (j1 _ rfl)
  by_cases b : n > 256
  · rw [if_neg (by unfold inP; simp; omega)]
    exact Ev.neg a (Ev.pos b (j1 _ rfl))
  by_cases c : i < 0
  · rw [if_neg (by unfold inP; simp; omega)]
    exact Ev.neg a (Ev.neg b (Ev.pos c (j1 _ rfl)))
  by_cases d : i ≥ n
  · rw [if_neg (by unfold inP; simp; omega)]
    exact Ev.neg a (Ev.neg b (Ev.neg c (j1 _ (decide_eq_true d))))
  rw [if_pos (by unfold inP; simp; omega), decide_eq_false d]
  refine Ev.neg a (Ev.neg b (Ev.neg c (Ev.succ ?_)))
  simp only [mosaicref03_Depth.j0]
  have := refdepth_l0 n.toNat i.toNat 0 (by omega) (by omega) (by omega) (by omega)
  rw [show ((n.toNat : Nat) : Int) = n by omega, show ((i.toNat : Nat) : Int) = i by omega, Nat.zero_add] at this
  exact Ev.neg (by simp) this

/-! ### The reference's lists -/
theorem refmay_l0 (l : List ByteArray) (hl : l.length ≤ 256) (d : Nat) : ∀ i : Nat, i + d = l.length → Ev (fun k => mosaicref03_May.l0 k l (i : Int)) (if (l.drop i).any longB = true then 2 else 0) := by
  induction d with
  | zero =>
    intro i hi
    refine Ev.succ ?_
    simp only [mosaicref03_May.l0]
    refine Ev.neg (by omega) (Ev.some_ ?_)
    rw [List.drop_of_length_le (by omega)]
    rfl
  | succ d ih =>
    intro i hi
    refine Ev.succ ?_
    simp only [mosaicref03_May.l0]
    rw [drop_getD l i (by omega), List.any_cons, rdOf_at, wrap_succ i (by omega)]
    refine Ev.pos (by omega) (Ev.pos (by omega) ?_)
    by_cases c : ((l.getD i ByteArray.empty).size : Int) > 1024
    · refine Ev.pos c (Ev.some_ ?_)
      rw [show longB (l.getD i ByteArray.empty) = true from decide_eq_true c]
      rfl
    · refine Ev.neg c ((ih (i + 1) (by omega)).to ?_)
      rw [show longB (l.getD i ByteArray.empty) = false from decide_eq_false c, Bool.false_or]
theorem refMay_ev (l : List ByteArray) : Ev (fun k => mosaicref03_May.f k l) (mayM l) := by
  unfold mosaicref03_May.f mayM
  by_cases a : l.length = 0
  · rw [if_pos a]
    exact Ev.pos (by omega) (Ev.some_ rfl)
  by_cases b : 256 < l.length
  · rw [if_neg a, if_pos b]
    exact Ev.neg (by omega) (Ev.pos (by omega) (Ev.some_ rfl))
  rw [if_neg a, if_neg b]
  exact Ev.neg (by omega) (Ev.neg (by omega) (refmay_l0 l (by omega) l.length 0 (by omega)))
theorem topM_size (n : Nat) : ∀ l : List ByteArray, l.length = n → 1 ≤ n → (∀ s ∈ l, s.size = 32) → (topM l).size = 32 := by
  intro l hl h1 hs
  by_cases h : n = 1
  · obtain ⟨a, rfl⟩ := list1 l (by omega)
    rw [topM_one]
    exact hs a (by simp)
  · rw [topM_two l (by omega)]
    exact knotD_size _ _
theorem refTop_ev (n : Nat) : ∀ l : List ByteArray, l.length = n → 1 ≤ n → n ≤ 1000 → (∀ s ∈ l, s.size ≤ 60000) → Ev (fun k => mosaicref03_Top.f k l) (topM (l.map leafD)) := by
  induction n using Nat.strongRecOn with
  | _ n ih =>
    intro l hl h1 hn hs
    refine Ev.succ ?_
    simp only [mosaicref03_Top.f]
    by_cases h : n = 1
    · obtain ⟨a, rfl⟩ := list1 l (by omega)
      have ha := hs a (by simp)
      have hz := leafT_size a
      refine Ev.pos rfl (Ev.pos (by simp) (Ev.call (leafText_f a (by omega)) (Ev.bind (refsum_ev _ (by omega)) (Ev.some_ ?_))))
      show leafD a = topM [leafD a]
      rw [topM_one]
    · have hlt := halfN_lt l.length (by omega)
      have hps := halfN_pos l.length
      have e1 : (l.take (halfN l.length)).length = halfN l.length := by rw [List.length_take]; omega
      have e2 : (l.drop (halfN l.length)).length = l.length - halfN l.length := List.length_drop
      have i1 := ih _ (by omega) (l.take (halfN l.length)) e1 (by omega) (by omega) (fun s hx => hs s (List.mem_of_mem_take hx))
      have i2 := ih _ (by omega) (l.drop (halfN l.length)) e2 (by omega) (by omega) (fun s hx => hs s (List.mem_of_mem_drop hx))
      have z1 := topM_size _ ((l.take (halfN l.length)).map leafD) rfl (by rw [List.length_map, e1]; omega) (leafs_size _)
      have z2 := topM_size _ ((l.drop (halfN l.length)).map leafD) rfl (by rw [List.length_map, e2]; omega) (leafs_size _)
      have hz := knotT_size (topM ((l.take (halfN l.length)).map leafD)) (topM ((l.drop (halfN l.length)).map leafD))
      refine Ev.neg (by omega) (Ev.bind (half_ev l.length (by omega) (by omega)) (Ev.pos (by omega) (Ev.pos (by omega) (Ev.bind i1 (Ev.bind i2 (Ev.call (knotText_f _ _ (by omega)) (Ev.bind (refsum_ev _ (by omega)) (Ev.some_ ?_))))))))
      rw [topM_two (l.map leafD) (by rw [List.length_map]; omega), List.length_map, List.map_take, List.map_drop]
      rfl
theorem refRoot_ev (l : List ByteArray) : Ev (fun k => mosaicref03_Root.f k l) (if mayM l = 0 then (topM (l.map leafD), 0) else ((⟨#[]⟩ : ByteArray), mayM l)) := by
  unfold mosaicref03_Root.f
  refine Ev.bind (refMay_ev l) ?_
  by_cases h : mayM l = 0
  · obtain ⟨h1, h2, h3⟩ := mayM_zero h
    rw [if_pos h]
    exact Ev.pos h (Ev.bind (refTop_ev l.length l rfl h1 (by omega) (fun s hs => by have := h3 s hs; omega)) (Ev.some_ rfl))
  · rw [if_neg h]
    exact Ev.neg h (Ev.some_ rfl)
theorem depthM_le (n : Nat) : ∀ i, depthM n i ≤ n := by
  induction n using Nat.strongRecOn with
  | _ n ih =>
    intro i
    by_cases h : n ≤ 1
    · rw [depthM_one n i h]
      omega
    · have hlt := halfN_lt n (by omega)
      have hps := halfN_pos n
      by_cases c : i < halfN n
      · rw [depthM_left n i (by omega) c]
        have := ih (halfN n) hlt i
        omega
      · rw [depthM_right n i (by omega) c]
        have := ih (n - halfN n) (by omega) (i - halfN n)
        omega
theorem refway_ev (n : Nat) : ∀ (l : List ByteArray) (i : Nat), l.length = n → 1 ≤ n → n ≤ 1000 → i < n → (∀ s ∈ l, s.size ≤ 60000) → Ev (fun k => mosaicref03_way.f k l (i : Int)) (wayM (l.map leafD) i) := by
  induction n using Nat.strongRecOn with
  | _ n ih =>
    intro l i hl h1 hn hi hs
    refine Ev.succ ?_
    simp only [mosaicref03_way.f]
    by_cases h : n = 1
    · obtain ⟨a, rfl⟩ := list1 l (by omega)
      refine Ev.pos rfl (Ev.some_ ?_)
      show [] = wayM [leafD a] i
      rw [wayM_one]
    · have hlt := halfN_lt l.length (by omega)
      have hps := halfN_pos l.length
      have e1 : (l.take (halfN l.length)).length = halfN l.length := by rw [List.length_take]; omega
      have e2 : (l.drop (halfN l.length)).length = l.length - halfN l.length := List.length_drop
      have t1 := refTop_ev _ (l.take (halfN l.length)) rfl (by omega) (by omega) (fun s hx => hs s (List.mem_of_mem_take hx))
      have t2 := refTop_ev _ (l.drop (halfN l.length)) rfl (by omega) (by omega) (fun s hx => hs s (List.mem_of_mem_drop hx))
      have hlm : (l.map leafD).length = l.length := List.length_map _
      refine Ev.neg (by omega) (Ev.bind (half_ev l.length (by omega) (by omega)) ?_)
      by_cases c : i < halfN l.length
      · have i1 := ih _ (by omega) (l.take (halfN l.length)) i e1 (by omega) (by omega) (by omega) (fun s hx => hs s (List.mem_of_mem_take hx))
        have hw := way_length _ ((l.take (halfN l.length)).map leafD) i rfl
        have hd := depthM_le ((l.take (halfN l.length)).map leafD).length i
        rw [List.length_map] at hd hw
        refine Ev.pos (by omega) (Ev.pos (by omega) (Ev.pos (by omega) (Ev.bind i1 (Ev.bind t2 (Ev.pos (by omega) (Ev.some_ ?_))))))
        rw [wayM_left (l.map leafD) i (by omega) (by rw [hlm]; exact c), hlm, List.map_take, List.map_drop]
      · have i1 := ih _ (by omega) (l.drop (halfN l.length)) (i - halfN l.length) e2 (by omega) (by omega) (by omega) (fun s hx => hs s (List.mem_of_mem_drop hx))
        have hw := way_length _ ((l.drop (halfN l.length)).map leafD) (i - halfN l.length) rfl
        have hd := depthM_le ((l.drop (halfN l.length)).map leafD).length (i - halfN l.length)
        rw [List.length_map] at hd hw
        have e3 : wrap64 ((i : Int) - (halfN l.length : Int)) = ((i - halfN l.length : Nat) : Int) := by unfold wrap64; omega
        rw [e3]
        refine Ev.neg (by omega) (Ev.pos (by omega) (Ev.pos (by omega) (Ev.bind i1 (Ev.bind t1 (Ev.pos (by omega) (Ev.some_ ?_))))))
        rw [wayM_right (l.map leafD) i (by omega) (by rw [hlm]; exact c), hlm, List.map_take, List.map_drop]
theorem refPath_ev (l : List ByteArray) (i : Int) : Ev (fun k => mosaicref03_Path.f k l i) (pathR l i) := by
  unfold mosaicref03_Path.f pathR
  refine Ev.bind (refMay_ev l) ?_
  by_cases h : mayM l = 0
  · obtain ⟨h1, h2, h3⟩ := mayM_zero h
    rw [if_pos h]
    refine Ev.pos h ?_
    by_cases c : i < 0
    · rw [if_neg (by unfold inP; simp; omega)]
      exact Ev.pos c (Ev.some_ rfl)
    by_cases d : i ≥ (l.length : Int)
    · rw [if_neg (by unfold inP; simp; omega)]
      exact Ev.neg c (Ev.pos d (Ev.some_ rfl))
    rw [if_pos (by unfold inP; simp; omega)]
    have := refway_ev l.length l i.toNat rfl h1 (by omega) (by omega) (fun s hs => by have := h3 s hs; omega)
    rw [show ((i.toNat : Nat) : Int) = i by omega] at this
    exact Ev.neg c (Ev.neg d (Ev.bind this (Ev.some_ rfl)))
  · rw [if_neg h]
    exact Ev.neg h (Ev.some_ rfl)
theorem same_l0 (l : List ByteArray) (hl : l.length ≤ 9223372036854775806) (d : Nat) : ∀ i : Nat, i + d = l.length → Ev (fun k => mosaicref03_Same.l0 k l l (i : Int)) true := by
  induction d with
  | zero =>
    intro i hi
    refine Ev.succ ?_
    simp only [mosaicref03_Same.l0]
    exact Ev.neg (by omega) (Ev.some_ rfl)
  | succ d ih =>
    intro i hi
    refine Ev.succ ?_
    simp only [mosaicref03_Same.l0]
    rw [wrap_succ i (by omega)]
    exact Ev.pos (by omega) (Ev.pos (by omega) (Ev.pos (by omega) (Ev.pos trivial (ih (i + 1) (by omega)))))
theorem same_ev (l : List ByteArray) (hl : l.length ≤ 9223372036854775806) : Ev (fun k => mosaicref03_Same.f k l l) true := Ev.pos rfl (same_l0 l hl l.length 0 (by omega))
theorem few_l0 (l : List ByteArray) (m : Int) (hl : l.length ≤ 1000) (d : Nat) : ∀ i : Nat, i + d = l.length → ∃ b, Ev (fun k => mosaiclaw03_few.l0 k l m (i : Int)) b ∧ (b = true → ∀ s ∈ l.drop i, (s.size : Int) ≤ m) := by
  induction d with
  | zero =>
    intro i hi
    refine ⟨true, Ev.succ ?_, fun _ s hs => ?_⟩
    · simp only [mosaiclaw03_few.l0]
      exact Ev.neg (by omega) (Ev.some_ rfl)
    · rw [List.drop_of_length_le (by omega)] at hs
      simp at hs
  | succ d ih =>
    intro i hi
    obtain ⟨b, h1, h2⟩ := ih (i + 1) (by omega)
    by_cases c : ((l.getD i ByteArray.empty).size : Int) > m
    · refine ⟨false, Ev.succ ?_, fun h => by simp at h⟩
      simp only [mosaiclaw03_few.l0]
      rw [rdOf_at]
      exact Ev.pos (by omega) (Ev.pos (by omega) (Ev.pos c (Ev.some_ rfl)))
    · refine ⟨b, Ev.succ ?_, fun hb s hs => ?_⟩
      · simp only [mosaiclaw03_few.l0]
        rw [rdOf_at, wrap_succ i (by omega)]
        exact Ev.pos (by omega) (Ev.pos (by omega) (Ev.neg c h1))
      · rw [drop_getD l i (by omega)] at hs
        rcases List.mem_cons.1 hs with rfl | hs
        · omega
        · exact h2 hb s hs
theorem few_ev (l : List ByteArray) (n m : Int) (hn : n ≤ 1000) : ∃ b, Ev (fun k => mosaiclaw03_few.f k l n m) b ∧ (b = true → (l.length : Int) ≤ n ∧ ∀ s ∈ l, (s.size : Int) ≤ m) := by
  unfold mosaiclaw03_few.f
  by_cases c : (l.length : Int) > n
  · exact ⟨false, Ev.pos c (Ev.some_ rfl), fun h => by simp at h⟩
  · obtain ⟨b, h1, h2⟩ := few_l0 l m (by omega) l.length 0 (by omega)
    exact ⟨b, Ev.neg c h1, fun hb => ⟨by omega, h2 hb⟩⟩

/-! ### The page's example -/
theorem halfN_3 : halfN 3 = 2 := by decide
theorem top3 (a b c : ByteArray) : topM [a, b, c] = knotD (knotD a b) c := by
  rw [topM_two _ (by simp)]
  show knotD (topM ([a, b, c].take (halfN 3))) (topM ([a, b, c].drop (halfN 3))) = _
  rw [halfN_3]
  show knotD (topM [a, b]) (topM [c]) = _
  rw [topM_one, topM_two _ (by simp)]
  show knotD (knotD (topM ([a, b].take (halfN 2))) (topM ([a, b].drop (halfN 2)))) c = _
  rw [halfN_2]
  show knotD (knotD (topM [a]) (topM [b])) c = _
  rw [topM_one, topM_one]
theorem way30 (a b c : ByteArray) : wayM [a, b, c] 0 = [b, c] := by
  rw [wayM_left _ _ (by simp) (by show 0 < halfN 3; rw [halfN_3]; omega)]
  show wayM ([a, b, c].take (halfN 3)) 0 ++ [topM ([a, b, c].drop (halfN 3))] = _
  rw [halfN_3]
  show wayM [a, b] 0 ++ [topM [c]] = _
  rw [topM_one, wayM_left _ _ (by simp) (by show 0 < halfN 2; rw [halfN_2]; omega)]
  show (wayM ([a, b].take (halfN 2)) 0 ++ [topM ([a, b].drop (halfN 2))]) ++ [c] = _
  rw [halfN_2]
  show (wayM [a] 0 ++ [topM [b]]) ++ [c] = _
  rw [topM_one, wayM_one]
  rfl
theorem way32 (a b c : ByteArray) : wayM [a, b, c] 2 = [knotD a b] := by
  rw [wayM_right _ _ (by simp) (by show ¬ 2 < halfN 3; rw [halfN_3]; omega)]
  show wayM ([a, b, c].drop (halfN 3)) (2 - halfN 3) ++ [topM ([a, b, c].take (halfN 3))] = _
  rw [halfN_3]
  show wayM [c] 0 ++ [topM [a, b]] = _
  rw [wayM_one, topM_two _ (by simp)]
  show [] ++ [knotD (topM ([a, b].take (halfN 2))) (topM ([a, b].drop (halfN 2)))] = _
  rw [halfN_2]
  show [] ++ [knotD (topM [a]) (topM [b])] = _
  rw [topM_one, topM_one]
  rfl
theorem awake03T : Ev (fun k => mosaiclaw03_awakeT.f k) true := by
  unfold mosaiclaw03_awakeT.f
  have hm : mayM [(⟨#[97]⟩ : ByteArray), (⟨#[98]⟩ : ByteArray), (⟨#[99]⟩ : ByteArray)] = 0 := by decide +kernel
  have hr := Root_ev [(⟨#[97]⟩ : ByteArray), (⟨#[98]⟩ : ByteArray), (⟨#[99]⟩ : ByteArray)]
  have p0 := Path_ev [(⟨#[97]⟩ : ByteArray), (⟨#[98]⟩ : ByteArray), (⟨#[99]⟩ : ByteArray)] 0
  have p2 := Path_ev [(⟨#[97]⟩ : ByteArray), (⟨#[98]⟩ : ByteArray), (⟨#[99]⟩ : ByteArray)] 2
  unfold pathR at p0 p2
  rw [if_pos hm] at hr p0 p2
  rw [if_pos (by decide)] at p0 p2
  simp only [List.map_cons, List.map_nil] at hr p0 p2
  rw [top3] at hr
  rw [show (0 : Int).toNat = 0 from rfl, way30] at p0
  rw [show (2 : Int).toNat = 2 from rfl, way32] at p2
  have za : (⟨#[97]⟩ : ByteArray).size ≤ 65535 := by decide
  have zb : (⟨#[98]⟩ : ByteArray).size ≤ 65535 := by decide
  have zc : (⟨#[99]⟩ : ByteArray).size ≤ 65535 := by decide
  have sa := leafD_size ⟨#[97]⟩
  have sb := leafD_size ⟨#[98]⟩
  have sc := leafD_size ⟨#[99]⟩
  have sk := knotD_size (leafD ⟨#[97]⟩) (leafD ⟨#[98]⟩)
  refine Ev.some_bind (Ev.bind hr (Ev.bind p0 (Ev.bind p2 (Ev.call (leaf_f _ za) (Ev.call (leaf_f _ zb) (Ev.call (Knot_f _ _ (by omega)) (Ev.pos rfl (Ev.pos rfl (Ev.pos rfl (Ev.call (leaf_f _ zc) (Ev.call (Knot_f _ _ (by omega)) (Ev.pos rfl (Ev.pos rfl (Ev.pos (by simp) (Ev.call (leaf_f _ zb) (Ev.pos rfl (Ev.pos rfl (Ev.pos (by simp) (Ev.pos rfl (Ev.some_ ?_))))))))))))))))))))
  rw [knotD_size]
  rfl
theorem awake03 : Ev (fun k => mosaiclaw03_awake.f k) true := by
  obtain ⟨K, h⟩ := awake03T
  refine ⟨K, fun k hk => ?_⟩
  show (if mosaiclaw03_awakeT.f k = some true then some true else none) = some true
  exact if_pos (h k hk)
end Go.Proofs.Ytelcaepenfjloaa.Pure
/-! #### PureMerklePaths -/
/- The path of any leaf of any list, or the error, is the document's, and is as long as is said; up to 30 leaves of up to 1,100 bytes. -/
namespace Go.Proofs.Ytelcaepenfjloaa.Pure
open Go.RowKit Go.Proofs.Ytelcaepenfjloaa.Print Go.Proofs.YtelcaepenfjloaaW.PrintWords Go.Proofs.YtelcaepenfjloaaW.PrintLast
set_option linter.unusedVariables false

theorem MerklePaths : mosaiclaw03_MerklePaths.Pure := by
  intro l i hl hi
  refine Ev.rounds ?_
  unfold mosaiclaw03_MerklePaths.f
  obtain ⟨b, hb, hf⟩ := few_ev l 30 1100 (by omega)
  refine Ev.bind hb ?_
  cases b with
  | false => exact Ev.neg (by simp) (Ev.bind awake03 (Ev.some_ rfl))
  | true =>
    obtain ⟨h1, h2⟩ := hf rfl
    have hz : (pathR l i).1.length ≤ 1000 := by
      unfold pathR
      split
      · split
        · have := way_length _ (l.map leafD) i.toNat rfl
          have hd := depthM_le (l.map leafD).length i.toNat
          rw [List.length_map] at this hd
          show (wayM (l.map leafD) i.toNat).length ≤ 1000
          omega
        · simp
      · simp
    refine Ev.pos rfl (Ev.bind (Path_ev l i) (Ev.bind (refPath_ev l i) (Ev.bind awake03 (Ev.pos rfl (Ev.bind (same_ev _ (by omega)) (Ev.pos rfl (Ev.pos rfl ?_)))))))
    by_cases c : (pathR l i).2 = 0
    · refine Ev.pos c (Ev.bind (Depth_ev _ _) (Ev.some_ ?_))
      rw [beq_iff_eq]
      unfold pathR at c ⊢
      unfold depthR
      by_cases m : mayM l = 0
      · rw [if_pos m] at c ⊢
        by_cases n : inP l.length i = true
        · rw [if_pos n, if_pos n]
          have := way_length _ (l.map leafD) i.toNat rfl
          rw [List.length_map] at this
          show ((wayM (l.map leafD) i.toNat).length : Int) = _
          rw [this]
          simp
        · rw [if_neg n] at c
          exact absurd c (by decide)
      · rw [if_neg m] at c
        exact absurd c m
    · exact Ev.neg c (Ev.some_ rfl)
end Go.Proofs.Ytelcaepenfjloaa.Pure
/-! #### LawMerklePaths -/
/- The given statement MerklePathsSaid is proved: the law mosaiclaw03_MerklePaths returns true for every input, without a panic; out of its pure statement (YtelcaepenfjloaaPureMerklePaths) and the walks of the functions that it reaches; no condition beyond the statement's own. -/
namespace Go.Proofs.Ytelcaepenfjloaa.merklePaths
open Go.ChangeShapes Go.WideShapes Go.ChangeAt Go.RowKit Go.Proofs.Ytelcaepenfjloaa.Print Go.Proofs.YtelcaepenfjloaaW.PrintWords Go.Proofs.Ytelcaepenfjloaa.Open
open Go.ChangeMaps (open_string shut_string)
set_option linter.unusedVariables false
set_option linter.unusedSimpArgs false
theorem own : ownKnob Try.prog.godebug = none := by kernel_rfl
theorem laidOut : laidOutB Try.prog = true := by kernel_rfl
set_option maxRecDepth 100000 in
theorem lifted (os : Os) (started : os.Started) (H : Type) (enc : TypeId × Value → H) :
    ReturnsInHanded {} Try.checked os 11 .any (Rows.merklePathsSpec.pre6 enc Try.prog Try.f11 Rows.merklePathsRow.domain false) (Rows.merklePathsSpec.post enc Try.prog Try.f11 false true false false) := by
  refine returnsInHanded_of_change_sized (C := Try.checked) own started (by kernel_rfl) Try.func11
    (ChangeSpec.witness6 (enc := enc) (C := Try.checked) false ⟨#[], #[.slice none 0 0, .int .i64 0], []⟩ 8 (by kernel_rfl) (by kernel_rfl) (by kernel_rfl) (by kernel_rfl)) ?_
  intro W base args ds gs before hval0 hW hcnd hsz0 _
  have hval : ∀ (j : Nat) t v, Try.f11.params[j]? = some t → args[j]? = some v → Value.okWide Try.prog W .any base t v := hval0
  have hW' := hW
  obtain ⟨p, q, hA0, hV, rfl, hfz, hnd⟩ := hW
  have hA : DataW.TrodAll enc Try.prog W 0 (fun _ => true) true Try.f11.params.toList args.toList ds p := hA0
  rw [Try.params11] at hA hval
  obtain ⟨v0, vs0, d0, ds0, p0, q0, hargs, rfl, rfl, h0, r0⟩ := trodAll_cons hA
  obtain ⟨v1, vs1, d1, ds1, p1, q1, rfl, rfl, rfl, h1, r1⟩ := trodAll_cons r0
  obtain ⟨rfl, rfl, rfl⟩ := trodAll_nil r1
  obtain rfl : args = #[v0, v1] := by cases args; simp_all
  obtain ⟨rfl, rfl⟩ := trodVars_none hV
  have lt0 : ∀ x ∈ p0, x.block < W.heap.size := by obtain ⟨m, hm⟩ := h0; exact DataW.trod_lt m _ _ _ hm
  have k0 := h0
  have one0 : v0.cells.toList = [v0] := by obtain ⟨a_, len_, cap_, rfl⟩ := okWide_slice Try.underlying39 (hval 0 39 v0 rfl rfl); rfl
  obtain ⟨A0, c0, l0, rfl, hc0, hr0, hq0⟩ := arg_slice opens39 one0 h0
  obtain ⟨a1, rfl, rfl, rfl, w1⟩ := open_int Try.underlying3 (hval 1 3 v1 rfl rfl) h1
  clear hA0 hval0 hsz0
  obtain ⟨kk, hkk⟩ := Pure.MerklePaths (l0) (a1) hq0 w1
  refine (mosaiclaw03_MerklePaths.callsT kk A0 c0 l0 a1 W hr0 hc0 hkk).mono ?_
  rintro e W' ⟨rfl, hd_⟩
  have bel : Below W.heap.size W W' := hd_
  exact ⟨_, rfl, _, _, _, [], _, [], hW', trodAll_mk1 (shut_bool Try.underlying4 _), (trodAll_cons_mk (Below.trod laidOut (by kernel_rfl) (of_decide_eq_true (by kernel_rfl)) k0 bel lt0) (trodAll_cons_mk (shut_int Try.underlying3 w1) trodAll_mk0)), rfl, bel.frame _, fun h => by cases h⟩
theorem facts : joinedFacts Try.pinned.checked.prog 11 Try.f11 Rows.merklePathsSpec Rows.merklePathsRow = true := by
  unfold joinedFacts
  simp only [Bool.and_eq_true]
  repeat' apply And.intro
  any_goals (with_reducible exact Fct.mayEnter)
  any_goals ((with_reducible refine Fct.lifts _ ?_); rfl)
  any_goals ((with_reducible refine Fct.make_ _ ?_); rfl)
  all_goals (as_aux_lemma => kernel_rfl)
theorem over : Rows.merklePathsRow.holds Try.pinned (OpenSpec.ofChange Rows.merklePathsSpec) :=
  OpenClaim.holds_of_wide 11 Try.f11 rfl rfl rfl rfl rfl rfl rfl ⟨rfl, rfl, rfl, rfl, rfl⟩ rfl rfl rfl rfl rfl (by as_aux_lemma => kernel_rfl) Try.func11 facts
    (of_decide_eq_true (by as_aux_lemma => kernel_rfl)) (by unfold Func.isWrapper; first | (rw [if_pos (by decide +kernel)]; as_aux_lemma => kernel_rfl) | (rw [if_neg (by decide +kernel)]; exact ⟨rfl, rfl⟩))
    (fun os started H enc _ => lifted os started H enc)
theorem proved : Rows.MerklePathsSaid := over
#print axioms proved
end Go.Proofs.Ytelcaepenfjloaa.merklePaths
namespace Go.Proofs.Ytelcaepenfjloaa
/-- The row, under a short name, for the claim. -/
theorem merklePaths_holds : Rows.MerklePathsSaid := merklePaths.proved
end Go.Proofs.Ytelcaepenfjloaa
