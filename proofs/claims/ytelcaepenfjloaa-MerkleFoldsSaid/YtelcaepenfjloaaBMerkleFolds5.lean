/- The proof of the statement MerkleFolds of the seat, part 5 of 6: the functions that it reaches, as plain functions, with the walks that show it, and what they come to; the last part ends in the row. No condition beyond the statement's own. -/
import Derived.Shelf.Strings.Builder1
import Derived.Lib.Builder
import Derived.IntWalk
import Derived.Laws.BitsLemmas
import Derived.Test.YtelcaepenfjloaaBMerkleFolds1
import Derived.Test.YtelcaepenfjloaaBMerkleFolds2
import Derived.Test.YtelcaepenfjloaaBMerkleFolds3
import Derived.Test.YtelcaepenfjloaaBMerkleFolds4
/-! #### Pr81 -/
-- By the kit's print, called by a program of this session with functions that are proved by hand.
namespace Go.Proofs.Ytelcaepenfjloaa.Print
open Go.RowKit Go.Proofs.YtelcaepenfjloaaW.PrintWords Go.Proofs.YtelcaepenfjloaaW.PrintLast Go.Proofs.YtelcaepenfjloaaW.PrintMore
attribute [local go_sem] max2_int min2_int max_two min_two max_three min_three max_four min_four
set_option linter.unusedVariables false
set_option linter.unusedSimpArgs false

/-! ### merkle_Road: function 81 -/
def merkle_Road.f (k : Nat) (a0 : Int) (a1 : Int) (a2 : ByteArray) (l3 : List ByteArray) : Option (List ByteArray) := (merkle_Leaf.f a2).bind fun t661 => ((merkle_folds.f a0 a1 t661 l3).bind fun t662 => (if t662 = 0 then (if 1 + a2.size ≤ 9223372036854775807 then ((some (([(⟨#[0]⟩ : ByteArray) ++ a2] : List ByteArray) : List ByteArray)).bind fun y663 => ((merkle_Climb.f k a0 a1 t661 l3).bind fun t666 => (if y663.length + t666.length < 8796093022208 then (some (y663 ++ t666)) else (none)))) else (none)) else (some ([] : List ByteArray))))
theorem merkle_Road.mono : ∀ a0 a1 a2 a3 k, LeO (merkle_Road.f k a0 a1 a2 a3) (merkle_Road.f (k + 1) a0 a1 a2 a3) := by
 intro a0 a1 a2 a3 k
 unfold merkle_Road.f
 repeat' first
   | (with_reducible exact merkle_Climb.mono _ _ _ _ _)
   | (with_reducible exact LeO.refl _)
   | (with_reducible exact LeO.none _)
   | (with_reducible refine LeO.ite ?_ ?_)
   | (with_reducible refine LeO.bind ?_ (fun _ => ?_))
   | exact merkle_Climb.mono _ _ _ _ _
   | exact LeO.none _
   | refine LeO.ite ?_ ?_
   | refine LeO.bind ?_ (fun _ => ?_)
set_option maxHeartbeats 8000000 in
set_option maxRecDepth 100000 in
theorem merkle_Road.calls (k : Nat) (a0 : Int) (a1 : Int) (a2 : ByteArray) (A3 : Option Addr) (c3 : Nat) (l3 : List ByteArray) (r : List ByteArray) (w : World) (hr3 : Kd.C Kd.string w A3 l3.length l3) (hc3 : l3.length ≤ c3) (h : merkle_Road.f k a0 a1 a2 l3 = some r) :
  Calls Try.prog 81 #[.int .i64 a0, .int .i64 a1, .string a2, .slice A3 l3.length c3] w fun e w' => ∃ v0_ : Value, e = .returned (v0_) ∧ Kd.R Kd.string 9 w' w.heap.size (fun _ => True) v0_ r ∧ Below w.heap.size w w' := by
 have HR3 := Aside0.mk hr3
 have HC3 := Aside0.mk hc3
 clear hr3 hc3
 have HB := Aside0.mk (Below.refl w.heap.size w)
 have H : ((merkle_Leaf.f a2).bind fun t661 => ((merkle_folds.f a0 a1 t661 l3).bind fun t662 => (if t662 = 0 then (if 1 + a2.size ≤ 9223372036854775807 then ((some (([(⟨#[0]⟩ : ByteArray) ++ a2] : List ByteArray) : List ByteArray)).bind fun y663 => ((merkle_Climb.f k a0 a1 t661 l3).bind fun t666 => (if y663.length + t666.length < 8796093022208 then (some (y663 ++ t666)) else (none)))) else (none)) else (some ([] : List ByteArray))))) = some r := h
 clear h
 replace H := Option.bind_eq_some_iff.mp H
 obtain ⟨t661, A50, H⟩ := H
 replace H : ((merkle_folds.f a0 a1 t661 l3).bind fun t662 => (if t662 = 0 then (if 1 + a2.size ≤ 9223372036854775807 then ((some (([(⟨#[0]⟩ : ByteArray) ++ a2] : List ByteArray) : List ByteArray)).bind fun y663 => ((merkle_Climb.f k a0 a1 t661 l3).bind fun t666 => (if y663.length + t666.length < 8796093022208 then (some (y663 ++ t666)) else (none)))) else (none)) else (some ([] : List ByteArray)))) = some r := H
 have A5 := Aside0.mk A50
 clear A50
 replace H := Option.bind_eq_some_iff.mp H
 obtain ⟨t662, A60, H⟩ := H
 replace H : (if t662 = 0 then (if 1 + a2.size ≤ 9223372036854775807 then ((some (([(⟨#[0]⟩ : ByteArray) ++ a2] : List ByteArray) : List ByteArray)).bind fun y663 => ((merkle_Climb.f k a0 a1 t661 l3).bind fun t666 => (if y663.length + t666.length < 8796093022208 then (some (y663 ++ t666)) else (none)))) else (none)) else (some ([] : List ByteArray))) = some r := H
 have A6 := Aside0.mk A60
 clear A60
 by_cases c7 : t662 = 0
 ·
  rw [if_pos c7] at H
  have c7b0 : (t662 == 0) = true := beq_iff_eq.mpr c7
  have c7b1 : (t662 != 0) = false := bne_eq_false_iff_eq.mpr c7
  clear c7
  by_cases c8 : 1 + a2.size ≤ 9223372036854775807
  ·
   rw [if_pos c8] at H
   have c8b0 := eq_true c8
   have c8b1 : decide (1 + a2.size ≤ 9223372036854775807) = true := decide_eq_true c8
   try have c8b2 : (9223372036854775807 < 1 + a2.size) = False := eq_false (Nat.not_lt.2 c8)
   obtain ⟨y663, hy663⟩ : ∃ y_ : List ByteArray, y_ = (([(⟨#[0]⟩ : ByteArray) ++ a2] : List ByteArray)) := ⟨_, rfl⟩
   replace H : ((merkle_Climb.f k a0 a1 t661 l3).bind fun t666 => (if y663.length + t666.length < 8796093022208 then (some (y663 ++ t666)) else (none))) = some r := by first | (rw [hy663]; with_reducible exact H) | (have H2_ := (Option.bind_some _ _).symm.trans H; rw [hy663]; with_reducible exact H2_) | (have H2_ := (Option.bind_some _ _).symm.trans H; with_reducible exact H2_) | with_reducible exact H | (rw [hy663]; exact H) | exact H
   have Ny663 := Aside0.mk hy663
   clear hy663
   replace H := Option.bind_eq_some_iff.mp H
   obtain ⟨t666, A90, H⟩ := H
   replace H : (if y663.length + t666.length < 8796093022208 then (some (y663 ++ t666)) else (none)) = some r := H
   have A9 := Aside0.mk A90
   clear A90
   by_cases c10 : y663.length + t666.length < 8796093022208
   ·
    rw [if_pos c10] at H
    have LMc10 := Aside0.mk c10
    clear c10
    obtain ⟨y669, hy669⟩ : ∃ y_ : List ByteArray, y_ = (y663 ++ t666) := ⟨_, rfl⟩
    replace H : (some y669) = some r := by first | (rw [hy669]; with_reducible exact H) | (have H2_ := (Option.bind_some _ _).symm.trans H; rw [hy669]; with_reducible exact H2_) | (have H2_ := (Option.bind_some _ _).symm.trans H; with_reducible exact H2_) | with_reducible exact H | (rw [hy669]; exact H) | exact H
    have Ny669 := Aside0.mk hy669
    clear hy669
    obtain rfl := Option.some.inj H
    go_enter Try.func81, Try.ntmps81
    go_wp2_with (first | ((with_reducible refine gate_callee (f := 48) rfl ?_); refine goesL_ (some 11) rfl rfl Try.func48 (by kernel_rfl) rfl #[.string a2] rfl (by (try simp only [List.map_toArray, List.map_cons, List.map_nil]); first | done | rfl | (simp only [List.length_drop, List.length_take]; rfl)) ?_; (with_reducible refine (merkle_Leaf.calls a2 t661 _ A5.out).mono ?_); rintro e w11 ⟨rfl, hb⟩; refine ⟨_, rfl, ?_⟩; have n0_ := Aside0.mk (below_step (by repeat (first | (with_reducible first | exact HB.out | apply below_alloc | apply pw_below_drewN | apply below_drew1) | exact HB.out)) hb); clear HB; have HB := n0_; clear n0_; (try clear hb); (try clear hb2); (try clear hk); (try clear hi)) | ((with_reducible refine gate_callee (f := 109) rfl ?_); refine goesL_ (some 16) rfl rfl Try.func109 (by kernel_rfl) rfl #[.int .i64 a0, .int .i64 a1, .string t661, .slice A3 l3.length c3] rfl (by (try simp only [List.map_toArray, List.map_cons, List.map_nil]); first | done | rfl | (simp only [List.length_drop, List.length_take]; rfl)) ?_; (with_reducible refine (merkle_folds.calls a0 a1 t661 _ _ l3 t662 _ ?side1 ?side2 A6.out).mono ?_); (case side1 => repeat (first | exact (Kd.C_below HR3.out HB.out) | (with_reducible refine Kd.C_alloc ?_ _) | (with_reducible refine Kd.C_drewN ?_ _) | (with_reducible refine Kd.C_drew ?_))); (case side2 => exact HC3.out); rintro e w12 ⟨rfl, hb⟩; refine ⟨_, rfl, ?_⟩; have n0_ := Aside0.mk (below_step (by repeat (first | (with_reducible first | exact HB.out | apply below_alloc | apply pw_below_drewN | apply below_drew1) | exact HB.out)) hb); clear HB; have HB := n0_; clear n0_; (try clear hb); (try clear hb2); (try clear hk); (try clear hi)) | ((with_reducible refine gate_dst (N := 20) rfl ?_); refine Kd.R_lit Kd.string _ 9 ?hg (N := 20) ?hd (xs := ([(⟨#[0]⟩ : ByteArray) ++ a2] : List ByteArray)) (inner := [.string ((⟨#[0]⟩ : ByteArray) ++ a2)]) (ok := fun _ => True) (okp := fun _ => True) ?hr ?hp (fun _ hk => hk) trivial (Below.refl _ _) (Nat.le_refl _) (by simp) ?_; (case hd => rfl); (case hg => rfl); (case hr => first | (go_simp; done) | (go_simp; rfl)); (case hp => exact (Reps.one (show Kd.M Kd.string _ _ _ ((⟨#[0]⟩ : ByteArray) ++ a2) [.string ((⟨#[0]⟩ : ByteArray) ++ a2)] from rfl) (Reps.none _ _))); intro v664 w13 ho14 hb hg_ hnew_; clear hg_ hnew_; (first | rw [← Ny663.out] at ho14 | (simp only [Int.reduceToNat] at ho14; rw [← Ny663.out] at ho14)); have n0_ := Aside0.mk (Kd.R_lower ho14 (below_size (by repeat (first | (with_reducible first | exact HB.out | apply below_alloc | apply pw_below_drewN | apply below_drew1) | exact HB.out)))); have n1_ := Aside0.mk (below_step (by repeat (first | (with_reducible first | exact HB.out | apply below_alloc | apply pw_below_drewN | apply below_drew1) | exact HB.out)) hb); clear HB; have HO665 := n0_; have HB := n1_; clear n0_ n1_; clear hb ho14) | ((with_reducible refine gate_callee (f := 77) rfl ?_); refine goesL_ (some 25) rfl rfl Try.func77 (by kernel_rfl) rfl #[.int .i64 a0, .int .i64 a1, .string t661, .slice A3 l3.length c3] rfl (by (try simp only [List.map_toArray, List.map_cons, List.map_nil]); first | done | rfl | (simp only [List.length_drop, List.length_take]; rfl)) ?_; (with_reducible refine (merkle_Climb.calls k a0 a1 t661 _ _ l3 t666 _ ?side1 ?side2 A9.out).mono ?_); (case side1 => repeat (first | exact (Kd.C_below HR3.out HB.out) | (with_reducible refine Kd.C_alloc ?_ _) | (with_reducible refine Kd.C_drewN ?_ _) | (with_reducible refine Kd.C_drew ?_))); (case side2 => exact HC3.out); rintro e w15 ⟨v667, rfl, ho0, hb⟩; refine ⟨_, rfl, ?_⟩; have n0_ := Aside0.mk (Kd.R_elder' (by (with_reducible repeat (first | apply Kd.R_alloc | apply Kd.R_drewN | apply Kd.R_drew)); exact HO665.out) (Kd.R_base ho0) hb); have n1_ := Aside0.mk (Kd.R_lower (Kd.R_new' ho0 (Kd.R_lt (by (with_reducible repeat (first | apply Kd.R_alloc | apply Kd.R_drewN | apply Kd.R_drew)); exact HO665.out))) (below_size (by repeat (first | (with_reducible first | exact HB.out | apply below_alloc | apply pw_below_drewN | apply below_drew1) | exact HB.out)))); have n2_ := Aside0.mk (below_step (by repeat (first | (with_reducible first | exact HB.out | apply below_alloc | apply pw_below_drewN | apply below_drew1) | exact HB.out)) hb); clear HO665; clear HB; have HO665 := n0_; have HO668 := n1_; have HB := n2_; clear n0_ n1_ n2_; (try clear hb); (try clear hb2); (try clear hk); (try clear hi); (try clear ho0); obtain ⟨Ao17, co17, eo17⟩ := Kd.R_slice HO668.out; subst eo17) | ((with_reducible refine gate_builtin (b := .append) (xs := #[.tmp 20, .tmp 25]) rfl ?_); at_builtin; refine Kd.R_append_rows Kd.string (w0 := w) w.heap.size rfl (.tmp 20) (.tmp 25) 39 9 (.string ⟨#[]⟩) 16 rfl Try.underlying39 info9 rfl (by decide) (by omega) v664 y663 t666 _ _ _ (fun k_ => some k_ ≠ (.slice Ao17 t666.length co17 : Value).ownBlock) (fun _ => False) rfl rfl ?aO ?aR (fun _ _ h => h) (fun _ h => h.elim) ?aF ?aB ?aS ?aL ?_; (case aR => repeat (first | exact (Kd.R_reads' HO668.out).2.2 | (with_reducible refine Kd.C_alloc ?_ _) | (with_reducible refine Kd.C_drewN ?_ _) | (with_reducible refine Kd.C_drew ?_))); (case aB => exact (by repeat (first | (with_reducible first | exact HB.out | apply below_alloc | apply pw_below_drewN | apply below_drew1) | exact HB.out))); (case aF => exact (fun k_ hk => Kd.fresh' (Kd.R_lt (by (with_reducible repeat (first | apply Kd.R_alloc | apply Kd.R_drewN | apply Kd.R_drew)); exact HO668.out)) k_ hk)); (case aO => exact (by (with_reducible repeat (first | apply Kd.R_alloc | apply Kd.R_drewN | apply Kd.R_drew)); exact Kd.R_mono HO665.out (fun _ hk => hk.2))); (case aS => exact (below_size (by repeat (first | (with_reducible first | exact HB.out | apply below_alloc | apply pw_below_drewN | apply below_drew1) | exact HB.out)))); (case aL => have := LMc10.out; omega); intro v670 w16 ho hb hg hat; rw [← Ny669.out] at ho; have n0_ := Aside0.mk (Kd.R_after (ok := (fun _ => True)) (by (with_reducible repeat (first | apply Kd.R_alloc | apply Kd.R_drewN | apply Kd.R_drew)); exact HO668.out) hg hat); have n1_ := Aside0.mk (hb); have n2_ := Aside0.mk (ho); clear HO668; clear HB; clear HO665; have HO668 := n0_; have HB := n1_; have HO671 := n2_; clear n0_ n1_ n2_; clear ho hb hg hat))
    go_ret
    exact ⟨_, by first | rfl | (simp [errW_none, errW_some] <;> rfl) | (simp [*, errW_none, errW_some] <;> rfl), by (with_reducible repeat (first | apply Kd.R_alloc | apply Kd.R_drewN | apply Kd.R_drew)); exact Kd.R_mono HO671.out (fun _ hk => trivial), by repeat (first | (with_reducible first | exact HB.out | apply below_alloc | apply pw_below_drewN | apply below_drew1) | exact HB.out)⟩
   ·
    rw [if_neg c10] at H
    exact absurd H (by simp)
  ·
   rw [if_neg c8] at H
   exact absurd H (by simp)
 ·
  rw [if_neg c7] at H
  have c7b0 : (t662 == 0) = false := beq_eq_false_iff_ne.mpr c7
  have c7b1 : (t662 != 0) = true := bne_iff_ne.mpr c7
  obtain rfl := Option.some.inj H
  go_enter Try.func81, Try.ntmps81
  go_wp2_with (first | ((with_reducible refine gate_callee (f := 48) rfl ?_); refine goesL_ (some 11) rfl rfl Try.func48 (by kernel_rfl) rfl #[.string a2] rfl (by (try simp only [List.map_toArray, List.map_cons, List.map_nil]); first | done | rfl | (simp only [List.length_drop, List.length_take]; rfl)) ?_; (with_reducible refine (merkle_Leaf.calls a2 t661 _ A5.out).mono ?_); rintro e w18 ⟨rfl, hb⟩; refine ⟨_, rfl, ?_⟩; have n0_ := Aside0.mk (below_step (by repeat (first | (with_reducible first | exact HB.out | apply below_alloc | apply pw_below_drewN | apply below_drew1) | exact HB.out)) hb); clear HB; have HB := n0_; clear n0_; (try clear hb); (try clear hb2); (try clear hk); (try clear hi)) | ((with_reducible refine gate_callee (f := 109) rfl ?_); refine goesL_ (some 16) rfl rfl Try.func109 (by kernel_rfl) rfl #[.int .i64 a0, .int .i64 a1, .string t661, .slice A3 l3.length c3] rfl (by (try simp only [List.map_toArray, List.map_cons, List.map_nil]); first | done | rfl | (simp only [List.length_drop, List.length_take]; rfl)) ?_; (with_reducible refine (merkle_folds.calls a0 a1 t661 _ _ l3 t662 _ ?side1 ?side2 A6.out).mono ?_); (case side1 => repeat (first | exact (Kd.C_below HR3.out HB.out) | (with_reducible refine Kd.C_alloc ?_ _) | (with_reducible refine Kd.C_drewN ?_ _) | (with_reducible refine Kd.C_drew ?_))); (case side2 => exact HC3.out); rintro e w19 ⟨rfl, hb⟩; refine ⟨_, rfl, ?_⟩; have n0_ := Aside0.mk (below_step (by repeat (first | (with_reducible first | exact HB.out | apply below_alloc | apply pw_below_drewN | apply below_drew1) | exact HB.out)) hb); clear HB; have HB := n0_; clear n0_; (try clear hb); (try clear hb2); (try clear hk); (try clear hi)))
  go_ret
  exact ⟨_, by first | rfl | (simp [errW_none, errW_some] <;> rfl) | (simp [*, errW_none, errW_some] <;> rfl), by first | exact Kd.R_nil _ _ _ _ _ | exact Kd.N_nil _ _ _ _ _ | exact Kd.V_nil _ _ _ _ _ | exact Kd.Q_nil _ _ _ _ _ | exact Kd.S_nil _ _ _ _ _, by repeat (first | (with_reducible first | exact HB.out | apply below_alloc | apply pw_below_drewN | apply below_drew1) | exact HB.out)⟩

end Go.Proofs.Ytelcaepenfjloaa.Print
/-! #### Pr49 -/
-- By the kit's print, called by a program of this session with functions that are proved by hand.
namespace Go.Proofs.Ytelcaepenfjloaa.Print
open Go.RowKit Go.Proofs.YtelcaepenfjloaaW.PrintWords Go.Proofs.YtelcaepenfjloaaW.PrintLast Go.Proofs.YtelcaepenfjloaaW.PrintMore
attribute [local go_sem] max2_int min2_int max_two min_two max_three min_three max_four min_four
set_option linter.unusedVariables false
set_option linter.unusedSimpArgs false

/-! ### mosaicref03_LeafText: function 49 -/
def mosaicref03_LeafText.f (a0 : ByteArray) : Option (ByteArray) := if 1 + a0.size ≤ 9223372036854775807 then (some ((⟨#[0]⟩ : ByteArray) ++ a0)) else (none)
set_option maxHeartbeats 8000000 in
set_option maxRecDepth 100000 in
theorem mosaicref03_LeafText.calls (a0 : ByteArray) (r : ByteArray) (w : World) (h : mosaicref03_LeafText.f a0 = some r) :
  Calls Try.prog 49 #[.string a0] w fun e w' => e = .returned (.string r) ∧ Drawn0 w w' := by
 have H : (if 1 + a0.size ≤ 9223372036854775807 then (some ((⟨#[0]⟩ : ByteArray) ++ a0)) else (none)) = some r := h
 clear h
 by_cases c2 : 1 + a0.size ≤ 9223372036854775807
 ·
  rw [if_pos c2] at H
  have c2b0 := eq_true c2
  have c2b1 : decide (1 + a0.size ≤ 9223372036854775807) = true := decide_eq_true c2
  try have c2b2 : (9223372036854775807 < 1 + a0.size) = False := eq_false (Nat.not_lt.2 c2)
  obtain rfl := Option.some.inj H
  go_enter Try.func49, Try.ntmps49
  go_wp2
  go_ret
  exact ⟨by first | rfl | (simp; done) | (simp [*]; done), by repeat (first | exact Drawn0.refl _ | apply Drawn0.step)⟩
 ·
  rw [if_neg c2] at H
  exact absurd H (by simp)

end Go.Proofs.Ytelcaepenfjloaa.Print
/-! #### Pr82 -/
-- By the kit's print, called by a program of this session with functions that are proved by hand.
namespace Go.Proofs.Ytelcaepenfjloaa.Print
open Go.RowKit Go.Proofs.YtelcaepenfjloaaW.PrintWords Go.Proofs.YtelcaepenfjloaaW.PrintLast Go.Proofs.YtelcaepenfjloaaW.PrintMore
attribute [local go_sem] max2_int min2_int max_two min_two max_three min_three max_four min_four
set_option linter.unusedVariables false
set_option linter.unusedSimpArgs false

/-! ### mosaicref03_Road: function 82 -/
def mosaicref03_Road.l0 : Nat → List ByteArray → Int → ByteArray → List ByteArray → Option (List ByteArray)
 | 0, _, _, _, _ => none
 | k + 1, x10, x12, x684000, x684001 => if x12 < (x684001.length : Int) then (if 0 ≤ x12 then (if x10.length < 8796093022208 then (mosaicref03_Road.l0 k (x10 ++ [rdOf ByteArray.empty x684001 x12]) (wrap64 (x12 + 1)) x684000 x684001) else (none)) else (none)) else (some x10)
def mosaicref03_Road.f (k : Nat) (a0 : Int) (a1 : Int) (a2 : ByteArray) (l3 : List ByteArray) : Option (List ByteArray) := (mosaicref03_LeafText.f a2).bind fun t672 => ((mosaicref01_Sum.f k t672).bind fun t673 => ((mosaicref03_folds.f k a0 a1 t673 l3).bind fun t674 => (if t674 = 0 then ((mosaicref03_LeafText.f a2).bind fun t675 => ((mosaicref03_climb.f k a0 a1 t673 l3).bind fun bt679 => (mosaicref03_Road.l0 k (([t675] : List ByteArray)) 0 bt679.1 bt679.2))) else (some ([] : List ByteArray)))))
theorem mosaicref03_Road.mono_l : ∀ k, (∀ y0 y1 y2 y3, LeO (mosaicref03_Road.l0 k y0 y1 y2 y3) (mosaicref03_Road.l0 (k + 1) y0 y1 y2 y3))
 | 0 => fun _ _ _ _ r h => by simp [mosaicref03_Road.l0] at h
 | k + 1 => by
  have ih0 := mosaicref03_Road.mono_l k
  ·
   intro y0 y1 y2 y3
   unfold mosaicref03_Road.l0
   repeat' first
   | (with_reducible exact ih0 _ _ _ _)
   | (with_reducible exact mosaicref01_Sum.mono _ _)
   | (with_reducible exact mosaicref03_climb.mono _ _ _ _ _)
   | (with_reducible exact mosaicref03_folds.mono _ _ _ _ _)
   | (with_reducible exact LeO.refl _)
   | (with_reducible exact LeO.none _)
   | (with_reducible refine LeO.ite ?_ ?_)
   | (with_reducible refine LeO.bind ?_ (fun _ => ?_))
   | exact ih0 _ _ _ _
   | exact mosaicref01_Sum.mono _ _
   | exact mosaicref03_climb.mono _ _ _ _ _
   | exact mosaicref03_folds.mono _ _ _ _ _
   | exact LeO.none _
   | refine LeO.ite ?_ ?_
   | refine LeO.bind ?_ (fun _ => ?_)
theorem mosaicref03_Road.mono : ∀ a0 a1 a2 a3 k, LeO (mosaicref03_Road.f k a0 a1 a2 a3) (mosaicref03_Road.f (k + 1) a0 a1 a2 a3) := by
 intro a0 a1 a2 a3 k
 have ih0 := mosaicref03_Road.mono_l k
 unfold mosaicref03_Road.f
 repeat' first
   | (with_reducible exact ih0 _ _ _ _)
   | (with_reducible exact mosaicref01_Sum.mono _ _)
   | (with_reducible exact mosaicref03_climb.mono _ _ _ _ _)
   | (with_reducible exact mosaicref03_folds.mono _ _ _ _ _)
   | (with_reducible exact LeO.refl _)
   | (with_reducible exact LeO.none _)
   | (with_reducible refine LeO.ite ?_ ?_)
   | (with_reducible refine LeO.bind ?_ (fun _ => ?_))
   | exact ih0 _ _ _ _
   | exact mosaicref01_Sum.mono _ _
   | exact mosaicref03_climb.mono _ _ _ _ _
   | exact mosaicref03_folds.mono _ _ _ _ _
   | exact LeO.none _
   | refine LeO.ite ?_ ?_
   | refine LeO.bind ?_ (fun _ => ?_)
set_option maxHeartbeats 8000000 in
set_option maxRecDepth 100000 in
theorem mosaicref03_Road.calls (k : Nat) (a0 : Int) (a1 : Int) (a2 : ByteArray) (A3 : Option Addr) (c3 : Nat) (l3 : List ByteArray) (r : List ByteArray) (w : World) (hr3 : Kd.C Kd.string w A3 l3.length l3) (hc3 : l3.length ≤ c3) (h : mosaicref03_Road.f k a0 a1 a2 l3 = some r) :
  Calls Try.prog 82 #[.int .i64 a0, .int .i64 a1, .string a2, .slice A3 l3.length c3] w fun e w' => ∃ v0_ : Value, e = .returned (v0_) ∧ Kd.R Kd.string 9 w' w.heap.size (fun _ => True) v0_ r ∧ Below w.heap.size w w' := by
 have hu142 := Try.underlying142
 have HR3 := Aside0.mk hr3
 have HC3 := Aside0.mk hc3
 clear hr3 hc3
 have HB := Aside0.mk (Below.refl w.heap.size w)
 have H : ((mosaicref03_LeafText.f a2).bind fun t672 => ((mosaicref01_Sum.f k t672).bind fun t673 => ((mosaicref03_folds.f k a0 a1 t673 l3).bind fun t674 => (if t674 = 0 then ((mosaicref03_LeafText.f a2).bind fun t675 => ((mosaicref03_climb.f k a0 a1 t673 l3).bind fun bt679 => (mosaicref03_Road.l0 k (([t675] : List ByteArray)) 0 bt679.1 bt679.2))) else (some ([] : List ByteArray)))))) = some r := h
 clear h
 replace H := Option.bind_eq_some_iff.mp H
 obtain ⟨t672, A50, H⟩ := H
 replace H : ((mosaicref01_Sum.f k t672).bind fun t673 => ((mosaicref03_folds.f k a0 a1 t673 l3).bind fun t674 => (if t674 = 0 then ((mosaicref03_LeafText.f a2).bind fun t675 => ((mosaicref03_climb.f k a0 a1 t673 l3).bind fun bt679 => (mosaicref03_Road.l0 k (([t675] : List ByteArray)) 0 bt679.1 bt679.2))) else (some ([] : List ByteArray))))) = some r := H
 have A5 := Aside0.mk A50
 clear A50
 replace H := Option.bind_eq_some_iff.mp H
 obtain ⟨t673, A60, H⟩ := H
 replace H : ((mosaicref03_folds.f k a0 a1 t673 l3).bind fun t674 => (if t674 = 0 then ((mosaicref03_LeafText.f a2).bind fun t675 => ((mosaicref03_climb.f k a0 a1 t673 l3).bind fun bt679 => (mosaicref03_Road.l0 k (([t675] : List ByteArray)) 0 bt679.1 bt679.2))) else (some ([] : List ByteArray)))) = some r := H
 have A6 := Aside0.mk A60
 clear A60
 replace H := Option.bind_eq_some_iff.mp H
 obtain ⟨t674, A70, H⟩ := H
 replace H : (if t674 = 0 then ((mosaicref03_LeafText.f a2).bind fun t675 => ((mosaicref03_climb.f k a0 a1 t673 l3).bind fun bt679 => (mosaicref03_Road.l0 k (([t675] : List ByteArray)) 0 bt679.1 bt679.2))) else (some ([] : List ByteArray))) = some r := H
 have A7 := Aside0.mk A70
 clear A70
 by_cases c8 : t674 = 0
 ·
  rw [if_pos c8] at H
  have c8b0 : (t674 == 0) = true := beq_iff_eq.mpr c8
  have c8b1 : (t674 != 0) = false := bne_eq_false_iff_eq.mpr c8
  clear c8
  replace H := Option.bind_eq_some_iff.mp H
  obtain ⟨t675, A90, H⟩ := H
  replace H : ((mosaicref03_climb.f k a0 a1 t673 l3).bind fun bt679 => (mosaicref03_Road.l0 k (([t675] : List ByteArray)) 0 bt679.1 bt679.2)) = some r := H
  have A9 := Aside0.mk A90
  obtain rfl : t672 = t675 := Option.some.inj (A5.out.symm.trans A9.out)
  clear A90
  obtain ⟨y676, hy676⟩ : ∃ y_ : List ByteArray, y_ = (([t672] : List ByteArray)) := ⟨_, rfl⟩
  replace H : ((mosaicref03_climb.f k a0 a1 t673 l3).bind fun bt679 => (mosaicref03_Road.l0 k y676 0 bt679.1 bt679.2)) = some r := by first | (rw [hy676]; with_reducible exact H) | (have H2_ := (Option.bind_some _ _).symm.trans H; rw [hy676]; with_reducible exact H2_) | (have H2_ := (Option.bind_some _ _).symm.trans H; with_reducible exact H2_) | with_reducible exact H | (rw [hy676]; exact H) | exact H
  have Ny676 := Aside0.mk hy676
  clear hy676
  replace H := Option.bind_eq_some_iff.mp H
  obtain ⟨⟨t679, t680⟩, A100, H⟩ := H
  replace H : (mosaicref03_Road.l0 k y676 0 t679 t680) = some r := H
  have A10 := Aside0.mk A100
  clear A100
  have H' := Aside0.mk H
  clear H
  go_enter Try.func82, Try.ntmps82
  go_wp2_with (first | ((with_reducible refine gate_callee (f := 49) rfl ?_); refine goesL_ (some 14) rfl rfl Try.func49 (by kernel_rfl) rfl #[.string a2] rfl (by (try simp only [List.map_toArray, List.map_cons, List.map_nil]); first | done | rfl | (simp only [List.length_drop, List.length_take]; rfl)) ?_; (with_reducible refine (mosaicref03_LeafText.calls a2 t672 _ A5.out).mono ?_); rintro e w' ⟨rfl, ⟨nd, rfl⟩⟩; refine ⟨_, rfl, ?_⟩) | ((with_reducible refine gate_callee (f := 27) rfl ?_); refine goesL_ (some 15) rfl rfl Try.func27 (by kernel_rfl) rfl #[.string t672] rfl (by (try simp only [List.map_toArray, List.map_cons, List.map_nil]); first | done | rfl | (simp only [List.length_drop, List.length_take]; rfl)) ?_; (with_reducible refine (mosaicref01_Sum.calls k t672 t673 _ A6.out).mono ?_); rintro e w11 ⟨rfl, hb⟩; refine ⟨_, rfl, ?_⟩; have n0_ := Aside0.mk (below_step (by repeat (first | (with_reducible first | exact HB.out | apply below_alloc | apply pw_below_drewN | apply below_drew1) | exact HB.out)) hb); clear HB; have HB := n0_; clear n0_; (try clear hb); (try clear hb2); (try clear hk); (try clear hi)) | ((with_reducible refine gate_callee (f := 111) rfl ?_); refine goesL_ (some 20) rfl rfl Try.func111 (by kernel_rfl) rfl #[.int .i64 a0, .int .i64 a1, .string t673, .slice A3 l3.length c3] rfl (by (try simp only [List.map_toArray, List.map_cons, List.map_nil]); first | done | rfl | (simp only [List.length_drop, List.length_take]; rfl)) ?_; (with_reducible refine (mosaicref03_folds.calls k a0 a1 t673 _ _ l3 t674 _ ?side1 ?side2 A7.out).mono ?_); (case side1 => repeat (first | exact (Kd.C_below HR3.out HB.out) | (with_reducible refine Kd.C_alloc ?_ _) | (with_reducible refine Kd.C_drewN ?_ _) | (with_reducible refine Kd.C_drew ?_))); (case side2 => exact HC3.out); rintro e w' ⟨rfl, ⟨nd, rfl⟩⟩; refine ⟨_, rfl, ?_⟩; (try (rw [drewN_self w11]; generalize hq_ : World.drewN w11 _ = w11; have n0_ : Aside0 (Below w.heap.size w w11) := ⟨by rw [← hq_]; exact (by repeat (first | (with_reducible first | exact HB.out | apply below_alloc | apply pw_below_drewN | apply below_drew1) | exact HB.out))⟩; clear HB hq_; have HB := n0_; clear n0_))) | ((with_reducible refine gate_callee (f := 49) rfl ?_); refine goesL_ (some 23) rfl rfl Try.func49 (by kernel_rfl) rfl #[.string a2] rfl (by (try simp only [List.map_toArray, List.map_cons, List.map_nil]); first | done | rfl | (simp only [List.length_drop, List.length_take]; rfl)) ?_; (with_reducible refine (mosaicref03_LeafText.calls a2 t672 _ A9.out).mono ?_); rintro e w' ⟨rfl, ⟨nd, rfl⟩⟩; refine ⟨_, rfl, ?_⟩; (try (rw [drewN_self w11]; generalize hq_ : World.drewN w11 _ = w11; have n0_ : Aside0 (Below w.heap.size w w11) := ⟨by rw [← hq_]; exact (by repeat (first | (with_reducible first | exact HB.out | apply below_alloc | apply pw_below_drewN | apply below_drew1) | exact HB.out))⟩; clear HB hq_; have HB := n0_; clear n0_))) | ((with_reducible refine gate_dst (N := 24) rfl ?_); refine Kd.R_lit Kd.string _ 9 ?hg (N := 24) ?hd (xs := ([t672] : List ByteArray)) (inner := [.string t672]) (ok := fun _ => True) (okp := fun _ => True) ?hr ?hp (fun _ hk => hk) trivial (Below.refl _ _) (Nat.le_refl _) (by simp) ?_; (case hd => rfl); (case hg => rfl); (case hr => first | (go_simp; done) | (go_simp; rfl)); (case hp => exact (Reps.one (show Kd.M Kd.string _ _ _ t672 [.string t672] from rfl) (Reps.none _ _))); intro v677 w12 ho13 hb hg_ hnew_; clear hg_ hnew_; (first | rw [← Ny676.out] at ho13 | (simp only [Int.reduceToNat] at ho13; rw [← Ny676.out] at ho13)); have n0_ := Aside0.mk (Kd.R_lower ho13 (below_size (by repeat (first | (with_reducible first | exact HB.out | apply below_alloc | apply pw_below_drewN | apply below_drew1) | exact HB.out)))); have n1_ := Aside0.mk (below_step (by repeat (first | (with_reducible first | exact HB.out | apply below_alloc | apply pw_below_drewN | apply below_drew1) | exact HB.out)) hb); clear HB; have HO678 := n0_; have HB := n1_; clear n0_ n1_; clear hb ho13) | ((with_reducible refine gate_callee (f := 112) rfl ?_); refine goesL_ (some 29) rfl rfl Try.func112 (by kernel_rfl) rfl #[.int .i64 a0, .int .i64 a1, .string t673, .slice A3 l3.length c3] rfl (by (try simp only [List.map_toArray, List.map_cons, List.map_nil]); first | done | rfl | (simp only [List.length_drop, List.length_take]; rfl)) ?_; (with_reducible refine (mosaicref03_climb.calls k a0 a1 t673 _ _ l3 t679 t680 _ ?side1 ?side2 A10.out).mono ?_); (case side1 => repeat (first | exact (Kd.C_below HR3.out HB.out) | (with_reducible refine Kd.C_alloc ?_ _) | (with_reducible refine Kd.C_drewN ?_ _) | (with_reducible refine Kd.C_drew ?_))); (case side2 => exact HC3.out); rintro e w14 ⟨v681, rfl, ho0, hb⟩; refine ⟨_, rfl, ?_⟩; have n0_ := Aside0.mk (Kd.R_elder' (by (with_reducible repeat (first | apply Kd.R_alloc | apply Kd.R_drewN | apply Kd.R_drew)); exact HO678.out) (Kd.R_base ho0) hb); have n1_ := Aside0.mk (Kd.R_lower (Kd.R_new' ho0 (Kd.R_lt (by (with_reducible repeat (first | apply Kd.R_alloc | apply Kd.R_drewN | apply Kd.R_drew)); exact HO678.out))) (below_size (by repeat (first | (with_reducible first | exact HB.out | apply below_alloc | apply pw_below_drewN | apply below_drew1) | exact HB.out)))); have n2_ := Aside0.mk (below_step (by repeat (first | (with_reducible first | exact HB.out | apply below_alloc | apply pw_below_drewN | apply below_drew1) | exact HB.out)) hb); clear HO678; clear HB; have HO678 := n0_; have HO682 := n1_; have HB := n2_; clear n0_ n1_ n2_; (try clear hb); (try clear hb2); (try clear hk); (try clear hi); (try clear ho0)) | ((with_reducible refine gate_dst (N := 11) rfl ?_); refine box_event ?hg (N := 11) ?hd (cs := #[.string (⟨#[]⟩ : ByteArray), .slice none 0 0]) (t := 142) ?hr ?_; (case hd => rfl); (case hg => rfl); (case hr => first | (go_simp; done) | (go_simp; rfl)); intro gb683 hg w15 hbox hb; have n0_ := Aside0.mk (Kd.R_below (by (with_reducible repeat (first | apply Kd.R_alloc | apply Kd.R_drewN | apply Kd.R_drew)); exact HO678.out) hb); have n1_ := Aside0.mk (Kd.R_below (by (with_reducible repeat (first | apply Kd.R_alloc | apply Kd.R_drewN | apply Kd.R_drew)); exact HO682.out) hb); have n2_ := Aside0.mk (below_step (by repeat (first | (with_reducible first | exact HB.out | apply below_alloc | apply pw_below_drewN | apply below_drew1) | exact HB.out)) hb); have n3_ := Aside0.mk (hbox); have n4_ := Aside0.mk ((by rw [hg]; exact (below_size (by repeat (first | (with_reducible first | exact HB.out | apply below_alloc | apply pw_below_drewN | apply below_drew1) | exact HB.out))) : w.heap.size ≤ gb683)); have n5_ := Aside0.mk ((by rw [hg]; exact (below_size (by repeat (first | (with_reducible first | exact HB.out | apply below_alloc | apply pw_below_drewN | apply below_drew1) | exact HB.out))) : w.heap.size ≤ gb683)); clear HO678; clear HO682; clear HB; have HO678 := n0_; have HO682 := n1_; have HB := n2_; have BK683 := n3_; have GW683 := n4_; have GE683 := n5_; clear n0_ n1_ n2_ n3_ n4_ n5_; clear hb hbox hg; have hcz16_0 : w15.cell? ⟨gb683, 0, none⟩ = some (.string (⟨#[]⟩ : ByteArray)) := (blk_cell BK683.out 0).trans rfl; have hcz16_1 : w15.cell? ⟨gb683, 1, none⟩ = some (.slice none 0 0) := (blk_cell BK683.out 1).trans rfl; have hfz16_0 := blk_frozen BK683.out 0; have hfz16_1 := blk_frozen BK683.out 1; obtain ⟨Ao17, co17, eo17⟩ := Kd.R_slice HO682.out; subst eo17))
  go_loopg [10, 12] k (fun kq v10 v12 w' => ∃ (x10_1 : List ByteArray) (x12_1 : Int), v12 = .int .i64 x12_1 ∧ Aside0 (mosaicref03_Road.l0 kq x10_1 x12_1 t679 t680 = some r) ∧ Aside0 (kq ≤ k) ∧ Aside0 (Kd.R Kd.string 9 w' w.heap.size (fun k_ => some k_ ≠ ((.slice Ao17 t680.length co17) : Value).ownBlock) v10 x10_1) ∧ Aside0 (Kd.R Kd.string 9 w' w.heap.size (fun k_ => some k_ ≠ (v10 : Value).ownBlock) (.slice Ao17 t680.length co17) t680) ∧ Aside0 (w'.heap[gb683]? = some (.cells #[.string t679, (.slice Ao17 t680.length co17)] 142 (0, 0))) ∧ Aside0 (Below w.heap.size w w'))
  case atStart => exact ⟨(y676), (0), (by first | rfl | (simp; done) | (simp [*]; done)), H', ⟨Nat.le_refl _⟩, ⟨by (with_reducible repeat (first | apply Kd.R_alloc | apply Kd.R_drewN | apply Kd.R_drew)); exact Kd.R_mono (Kd.R_far (p := ⟨gb683, 1, none⟩) (Kd.R_far (p := ⟨gb683, 0, none⟩) (Kd.R_types HO678.out BK683.out (by decide)) (fun _ hk => hk.2) (.string t679)) (fun _ hk => hk.2) (.slice Ao17 t680.length co17)) (fun _ hk => hk.1.2)⟩, ⟨by (with_reducible repeat (first | apply Kd.R_alloc | apply Kd.R_drewN | apply Kd.R_drew)); exact Kd.R_mono (Kd.R_far (p := ⟨gb683, 1, none⟩) (Kd.R_far (p := ⟨gb683, 0, none⟩) (Kd.R_types HO682.out BK683.out (by decide)) (fun _ hk => hk.2) (.string t679)) (fun _ hk => hk.2) (.slice Ao17 t680.length co17)) (fun _ hk => hk.1.2)⟩, ⟨by (with_reducible repeat (first | refine blk_drewN ?_ _ | refine blk_drew ?_ | refine blk_alloc ?_ _)); refine blk_put (cs := #[.string t679, .slice none 0 0]) ?_ 1 _ rfl; (with_reducible repeat (first | refine blk_drewN ?_ _ | refine blk_drew ?_ | refine blk_alloc ?_ _)); refine blk_put (cs := #[.string (⟨#[]⟩ : ByteArray), .slice none 0 0]) ?_ 0 _ rfl; (with_reducible repeat (first | refine blk_drewN ?_ _ | refine blk_drew ?_ | refine blk_alloc ?_ _)); exact BK683.out⟩, ⟨by repeat (first | (with_reducible first | exact HB.out | apply below_alloc | apply pw_below_drewN | apply below_drew1 | refine below_set ?_ GE683.out) | exact HB.out)⟩⟩
  case round =>
   clear H'
   try clear c1
   try clear c2
   try clear p2
   try clear c3
   try clear c4
   try clear c8
   try clear c8b0
   try clear c8b1
   try clear c11
   try clear hcz16_0
   try clear hcz16_1
   try clear hfz16_0
   try clear hfz16_1
   obtain ⟨x10_1, x12_1, rfl, HA, HK1, HO_10, HO_684001, BK683, HB⟩ := hrel
   cases gk with
   | zero => exact absurd HA.out (by simp [mosaicref03_Road.l0])
   | succ k1 =>
    have H := HA.out
    clear HA
    simp only [mosaicref03_Road.l0] at H
    by_cases c18 : x12_1 < (t680.length : Int)
    ·
     rw [if_pos c18] at H
     have c18b0 : decide (x12_1 < (t680.length : Int)) = true := decide_eq_true c18
     clear c18
     by_cases c19 : 0 ≤ x12_1
     ·
      rw [if_pos c19] at H
      have c19b0 : decide (0 ≤ x12_1) = true := decide_eq_true c19
      clear c19
      by_cases c20 : x10_1.length < 8796093022208
      ·
       rw [if_pos c20] at H
       have LMc20 := Aside0.mk c20
       clear c20
       obtain ⟨y685, hy685⟩ : ∃ y_ : List ByteArray, y_ = (x10_1 ++ [rdOf ByteArray.empty t680 x12_1]) := ⟨_, rfl⟩
       replace H : (mosaicref03_Road.l0 k1 y685 (wrap64 (x12_1 + 1)) t679 t680) = some r := by first | (rw [hy685]; with_reducible exact H) | (have H2_ := (Option.bind_some _ _).symm.trans H; rw [hy685]; with_reducible exact H2_) | (have H2_ := (Option.bind_some _ _).symm.trans H; with_reducible exact H2_) | with_reducible exact H | (rw [hy685]; exact H) | exact H
       have Ny685 := Aside0.mk hy685
       clear hy685
       have H' := Aside0.mk H
       clear H
       have hcz21_0 : wr.cell? ⟨gb683, 0, none⟩ = some (.string t679) := (blk_cell BK683.out 0).trans rfl
       have hcz21_1 : wr.cell? ⟨gb683, 1, none⟩ = some (.slice Ao17 t680.length co17) := (blk_cell BK683.out 1).trans rfl
       have hfz21_0 := blk_frozen BK683.out 0
       have hfz21_1 := blk_frozen BK683.out 1
       have p684 : 0 ≤ (x12_1 : Int) := of_decide_eq_true (by first | (with_reducible assumption) | assumption)
       have q684 : x12_1 < (t680.length : Int) := of_decide_eq_true (by first | (with_reducible assumption) | assumption)
       obtain ⟨ad684, e684, hx684_0⟩ := Kd.at_string (Kd.R_reads' HO_684001.out).2.2 x12_1 p684 q684
       cases e684
       replace p684 := eq_true p684
       replace q684 := eq_true q684
       go_wp2_with (first | ((with_reducible refine gate_builtin (b := .append) (xs := #[.tmp 37, .tmp 43]) rfl ?_); at_builtin; refine Kd.R_append Kd.string (w0 := w) w.heap.size rfl (.tmp 37) (.tmp 43) 39 9 (.string ⟨#[]⟩) 16 rfl Try.underlying39 info9 rfl (by decide) (by omega) u10 x10_1 (rdOf ByteArray.empty t680 x12_1) [.string (rdOf ByteArray.empty t680 x12_1)] (fun k_ => some k_ ≠ (.slice (some ad684) t680.length co17 : Value).ownBlock) (fun _ => False) rfl rfl ?aP (fun _ hk => hk.elim) ?aF ?aO ?aB ?aS ?aL ?_; (case aP => exact rfl); (case aB => exact (by repeat (first | (with_reducible first | exact HB.out | apply below_alloc | apply pw_below_drewN | apply below_drew1 | refine below_set ?_ GE683.out) | exact HB.out))); (case aF => exact (fun k_ hk => Kd.fresh' (Kd.R_lt (by (with_reducible repeat (first | apply Kd.R_alloc | apply Kd.R_drewN | apply Kd.R_drew)); exact HO_684001.out)) k_ hk)); (case aO => exact (by (with_reducible repeat (first | apply Kd.R_alloc | apply Kd.R_drewN | apply Kd.R_drew)); exact HO_10.out)); (case aS => exact (below_size (by repeat (first | (with_reducible first | exact HB.out | apply below_alloc | apply pw_below_drewN | apply below_drew1 | refine below_set ?_ GE683.out) | exact HB.out)))); (case aL => have := LMc20.out; omega); intro v686 w22 ho hb hg hat; rw [← Ny685.out] at ho; have n0_ := Aside0.mk (Kd.R_after (ok := (fun _ => True)) (by (with_reducible repeat (first | apply Kd.R_alloc | apply Kd.R_drewN | apply Kd.R_drew)); exact Kd.R_mono HO_684001.out (fun _ hk => ⟨trivial, hk⟩)) hg hat); have n1_ := Aside0.mk (blk_grown (g := gb683) (o := .cells #[.string t679, .slice (some ad684) t680.length co17] 142 (0, 0)) (by (with_reducible repeat (first | refine blk_drewN ?_ _ | refine blk_drew ?_ | refine blk_alloc ?_ _)); exact BK683.out) hg (Kd.R_ne HO_10.out BK683.out (by decide))); have n2_ := Aside0.mk (hb); have n3_ := Aside0.mk (ho); clear HO_684001; clear BK683; clear HB; clear HO_10; have HO_684001 := n0_; have BK683 := n1_; have HB := n2_; have HO687 := n3_; clear n0_ n1_ n2_ n3_; clear ho hb hg hat))
       go_roundg k1
       case measure => have := HK1.out; omega
       case rel => exact ⟨(y685), (wrap64 (x12_1 + 1)), (by first | rfl | (simp; done) | (simp [*]; done)), H', ⟨by have := HK1.out; omega⟩, ⟨by (with_reducible repeat (first | apply Kd.R_alloc | apply Kd.R_drewN | apply Kd.R_drew)); exact HO687.out⟩, ⟨by (with_reducible repeat (first | apply Kd.R_alloc | apply Kd.R_drewN | apply Kd.R_drew)); exact Kd.R_mono HO_684001.out (fun _ hk => hk.2)⟩, ⟨by (with_reducible repeat (first | refine blk_drewN ?_ _ | refine blk_drew ?_ | refine blk_alloc ?_ _)); exact BK683.out⟩, ⟨by repeat (first | (with_reducible first | exact HB.out | apply below_alloc | apply pw_below_drewN | apply below_drew1 | refine below_set ?_ GE683.out) | exact HB.out)⟩⟩
      ·
       rw [if_neg c20] at H
       exact absurd H (by simp)
     ·
      rw [if_neg c19] at H
      exact absurd H (by simp)
    ·
     rw [if_neg c18] at H
     have c18b0 : decide (x12_1 < (t680.length : Int)) = false := decide_eq_false c18
     clear c18
     obtain rfl := Option.some.inj H
     have hcz23_0 : wr.cell? ⟨gb683, 0, none⟩ = some (.string t679) := (blk_cell BK683.out 0).trans rfl
     have hcz23_1 : wr.cell? ⟨gb683, 1, none⟩ = some (.slice Ao17 t680.length co17) := (blk_cell BK683.out 1).trans rfl
     have hfz23_0 := blk_frozen BK683.out 0
     have hfz23_1 := blk_frozen BK683.out 1
     go_wp2
     go_ret
     exact ⟨_, by first | rfl | (simp [errW_none, errW_some] <;> rfl) | (simp [*, errW_none, errW_some] <;> rfl), by (with_reducible repeat (first | apply Kd.R_alloc | apply Kd.R_drewN | apply Kd.R_drew)); exact Kd.R_mono HO_10.out (fun _ hk => trivial), by repeat (first | (with_reducible first | exact HB.out | apply below_alloc | apply pw_below_drewN | apply below_drew1 | refine below_set ?_ GE683.out) | exact HB.out)⟩
 ·
  rw [if_neg c8] at H
  have c8b0 : (t674 == 0) = false := beq_eq_false_iff_ne.mpr c8
  have c8b1 : (t674 != 0) = true := bne_iff_ne.mpr c8
  obtain rfl := Option.some.inj H
  go_enter Try.func82, Try.ntmps82
  go_wp2_with (first | ((with_reducible refine gate_callee (f := 49) rfl ?_); refine goesL_ (some 14) rfl rfl Try.func49 (by kernel_rfl) rfl #[.string a2] rfl (by (try simp only [List.map_toArray, List.map_cons, List.map_nil]); first | done | rfl | (simp only [List.length_drop, List.length_take]; rfl)) ?_; (with_reducible refine (mosaicref03_LeafText.calls a2 t672 _ A5.out).mono ?_); rintro e w' ⟨rfl, ⟨nd, rfl⟩⟩; refine ⟨_, rfl, ?_⟩) | ((with_reducible refine gate_callee (f := 27) rfl ?_); refine goesL_ (some 15) rfl rfl Try.func27 (by kernel_rfl) rfl #[.string t672] rfl (by (try simp only [List.map_toArray, List.map_cons, List.map_nil]); first | done | rfl | (simp only [List.length_drop, List.length_take]; rfl)) ?_; (with_reducible refine (mosaicref01_Sum.calls k t672 t673 _ A6.out).mono ?_); rintro e w24 ⟨rfl, hb⟩; refine ⟨_, rfl, ?_⟩; have n0_ := Aside0.mk (below_step (by repeat (first | (with_reducible first | exact HB.out | apply below_alloc | apply pw_below_drewN | apply below_drew1) | exact HB.out)) hb); clear HB; have HB := n0_; clear n0_; (try clear hb); (try clear hb2); (try clear hk); (try clear hi)) | ((with_reducible refine gate_callee (f := 111) rfl ?_); refine goesL_ (some 20) rfl rfl Try.func111 (by kernel_rfl) rfl #[.int .i64 a0, .int .i64 a1, .string t673, .slice A3 l3.length c3] rfl (by (try simp only [List.map_toArray, List.map_cons, List.map_nil]); first | done | rfl | (simp only [List.length_drop, List.length_take]; rfl)) ?_; (with_reducible refine (mosaicref03_folds.calls k a0 a1 t673 _ _ l3 t674 _ ?side1 ?side2 A7.out).mono ?_); (case side1 => repeat (first | exact (Kd.C_below HR3.out HB.out) | (with_reducible refine Kd.C_alloc ?_ _) | (with_reducible refine Kd.C_drewN ?_ _) | (with_reducible refine Kd.C_drew ?_))); (case side2 => exact HC3.out); rintro e w' ⟨rfl, ⟨nd, rfl⟩⟩; refine ⟨_, rfl, ?_⟩))
  go_ret
  exact ⟨_, by first | rfl | (simp [errW_none, errW_some] <;> rfl) | (simp [*, errW_none, errW_some] <;> rfl), by first | exact Kd.R_nil _ _ _ _ _ | exact Kd.N_nil _ _ _ _ _ | exact Kd.V_nil _ _ _ _ _ | exact Kd.Q_nil _ _ _ _ _ | exact Kd.S_nil _ _ _ _ _, by repeat (first | (with_reducible first | exact HB.out | apply below_alloc | apply pw_below_drewN | apply below_drew1) | exact HB.out)⟩

end Go.Proofs.Ytelcaepenfjloaa.Print
/-! #### Pr21 -/
-- By the kit's print, called by a program of this session with functions that are proved by hand.
namespace Go.Proofs.Ytelcaepenfjloaa.Print
open Go.RowKit Go.Proofs.YtelcaepenfjloaaW.PrintWords Go.Proofs.YtelcaepenfjloaaW.PrintLast Go.Proofs.YtelcaepenfjloaaW.PrintMore
attribute [local go_sem] max2_int min2_int max_two min_two max_three min_three max_four min_four
set_option linter.unusedVariables false
set_option linter.unusedSimpArgs false

/-! ### mosaiclaw03_MerkleFolds: function 21 -/
def mosaiclaw03_MerkleFolds.j0 : Nat → ByteArray → ByteArray → Bool → Int → Int → ByteArray → List ByteArray → Option (Bool)
 | 0, _, _, _, _, _, _, _ => none
 | k + 1, x1, x2, x30, x689000, x689001, x689002, x689003 => if x30 = true then ((mosaiclaw03_awake.f k).bind fun t690 => (some t690)) else ((merkle_Fold.f k x689000 x689001 x689002 x689003).bind fun bt691 => ((mosaicref03_Fold.f k x689000 x689001 x689002 x689003).bind fun bt693 => ((merkle_Climb.f k x689000 x689001 x689002 x689003).bind fun t695 => ((mosaicref03_Climb.f k x689000 x689001 x689002 x689003).bind fun t698 => ((mosaicref03_Same.f k t695 t698).bind fun t701 => (if t701 = true then ((mosaiclaw03_awake.f k).bind fun t702 => (if t702 = true then (if bt691.1.toList = bt693.1.toList then (if bt691.2 = bt693.2 then ((merkle_Check.f k x1 x689000 x689001 x689002 x689003).bind fun t703 => ((mosaicref03_Check.f k x1 x689000 x689001 x689002 x689003).bind fun t704 => (if (t703 == t704) = true then ((merkle_Road.f k x689000 x689001 x2 x689003).bind fun t705 => ((mosaicref03_Road.f k x689000 x689001 x2 x689003).bind fun t708 => ((mosaicref03_Same.f k t705 t708).bind fun t711 => (some t711)))) else (some false)))) else (some false)) else (some false)) else (some false))) else (some false)))))))
def mosaiclaw03_MerkleFolds.f (k : Nat) (a0_0 : Int) (a0_1 : Int) (a0_2 : ByteArray) (l0_3 : List ByteArray) (a1 : ByteArray) (a2 : ByteArray) : Option (Bool) := (mosaiclaw03_few.f k l0_3 12 100).bind fun t689 => (if t689 = true then (if (a0_2.size : Int) > 100 then (mosaiclaw03_MerkleFolds.j0 k a1 a2 true a0_0 a0_1 a0_2 l0_3) else (if (a1.size : Int) > 100 then (mosaiclaw03_MerkleFolds.j0 k a1 a2 true a0_0 a0_1 a0_2 l0_3) else (mosaiclaw03_MerkleFolds.j0 k a1 a2 (decide ((a2.size : Int) > 1100)) a0_0 a0_1 a0_2 l0_3))) else (mosaiclaw03_MerkleFolds.j0 k a1 a2 true a0_0 a0_1 a0_2 l0_3))
theorem mosaiclaw03_MerkleFolds.mono_l : ∀ k, (∀ y0 y1 y2 y3 y4 y5 y6, LeO (mosaiclaw03_MerkleFolds.j0 k y0 y1 y2 y3 y4 y5 y6) (mosaiclaw03_MerkleFolds.j0 (k + 1) y0 y1 y2 y3 y4 y5 y6))
 | 0 => fun _ _ _ _ _ _ _ r h => by simp [mosaiclaw03_MerkleFolds.j0] at h
 | k + 1 => by
  have ih0 := mosaiclaw03_MerkleFolds.mono_l k
  ·
   intro y0 y1 y2 y3 y4 y5 y6
   unfold mosaiclaw03_MerkleFolds.j0
   repeat' first
   | (with_reducible exact ih0 _ _ _ _ _ _ _)
   | (with_reducible exact merkle_Check.mono _ _ _ _ _ _)
   | (with_reducible exact merkle_Climb.mono _ _ _ _ _)
   | (with_reducible exact merkle_Fold.mono _ _ _ _ _)
   | (with_reducible exact merkle_Road.mono _ _ _ _ _)
   | (with_reducible exact mosaiclaw03_awake.mono _)
   | (with_reducible exact mosaiclaw03_few.mono _ _ _ _)
   | (with_reducible exact mosaicref03_Check.mono _ _ _ _ _ _)
   | (with_reducible exact mosaicref03_Climb.mono _ _ _ _ _)
   | (with_reducible exact mosaicref03_Fold.mono _ _ _ _ _)
   | (with_reducible exact mosaicref03_Road.mono _ _ _ _ _)
   | (with_reducible exact mosaicref03_Same.mono _ _ _)
   | (with_reducible exact LeO.refl _)
   | (with_reducible exact LeO.none _)
   | (with_reducible refine LeO.ite ?_ ?_)
   | (with_reducible refine LeO.bind ?_ (fun _ => ?_))
   | exact ih0 _ _ _ _ _ _ _
   | exact merkle_Check.mono _ _ _ _ _ _
   | exact merkle_Climb.mono _ _ _ _ _
   | exact merkle_Fold.mono _ _ _ _ _
   | exact merkle_Road.mono _ _ _ _ _
   | exact mosaiclaw03_awake.mono _
   | exact mosaiclaw03_few.mono _ _ _ _
   | exact mosaicref03_Check.mono _ _ _ _ _ _
   | exact mosaicref03_Climb.mono _ _ _ _ _
   | exact mosaicref03_Fold.mono _ _ _ _ _
   | exact mosaicref03_Road.mono _ _ _ _ _
   | exact mosaicref03_Same.mono _ _ _
   | exact LeO.none _
   | refine LeO.ite ?_ ?_
   | refine LeO.bind ?_ (fun _ => ?_)
theorem mosaiclaw03_MerkleFolds.mono : ∀ a0 a1 a2 a3 a4 a5 k, LeO (mosaiclaw03_MerkleFolds.f k a0 a1 a2 a3 a4 a5) (mosaiclaw03_MerkleFolds.f (k + 1) a0 a1 a2 a3 a4 a5) := by
 intro a0 a1 a2 a3 a4 a5 k
 have ih0 := mosaiclaw03_MerkleFolds.mono_l k
 unfold mosaiclaw03_MerkleFolds.f
 repeat' first
   | (with_reducible exact ih0 _ _ _ _ _ _ _)
   | (with_reducible exact merkle_Check.mono _ _ _ _ _ _)
   | (with_reducible exact merkle_Climb.mono _ _ _ _ _)
   | (with_reducible exact merkle_Fold.mono _ _ _ _ _)
   | (with_reducible exact merkle_Road.mono _ _ _ _ _)
   | (with_reducible exact mosaiclaw03_awake.mono _)
   | (with_reducible exact mosaiclaw03_few.mono _ _ _ _)
   | (with_reducible exact mosaicref03_Check.mono _ _ _ _ _ _)
   | (with_reducible exact mosaicref03_Climb.mono _ _ _ _ _)
   | (with_reducible exact mosaicref03_Fold.mono _ _ _ _ _)
   | (with_reducible exact mosaicref03_Road.mono _ _ _ _ _)
   | (with_reducible exact mosaicref03_Same.mono _ _ _)
   | (with_reducible exact LeO.refl _)
   | (with_reducible exact LeO.none _)
   | (with_reducible refine LeO.ite ?_ ?_)
   | (with_reducible refine LeO.bind ?_ (fun _ => ?_))
   | exact ih0 _ _ _ _ _ _ _
   | exact merkle_Check.mono _ _ _ _ _ _
   | exact merkle_Climb.mono _ _ _ _ _
   | exact merkle_Fold.mono _ _ _ _ _
   | exact merkle_Road.mono _ _ _ _ _
   | exact mosaiclaw03_awake.mono _
   | exact mosaiclaw03_few.mono _ _ _ _
   | exact mosaicref03_Check.mono _ _ _ _ _ _
   | exact mosaicref03_Climb.mono _ _ _ _ _
   | exact mosaicref03_Fold.mono _ _ _ _ _
   | exact mosaicref03_Road.mono _ _ _ _ _
   | exact mosaicref03_Same.mono _ _ _
   | exact LeO.none _
   | refine LeO.ite ?_ ?_
   | refine LeO.bind ?_ (fun _ => ?_)
def mosaiclaw03_MerkleFolds.T5 : Bool × List (List Nat × List Nat) := (true, [([], []), ([0], [0]), ([], []), ([2], [2]), ([], []), ([4], [4]), ([], []), ([6], [6]), ([1, 3, 5, 7], [1, 3, 5, 7]), ([], []), ([9], [9]), ([], []), ([11], [11]), ([], []), ([13], [13]), ([], []), ([15], [15]), ([10, 12, 14, 16, 8], [10, 12, 14, 16]), ([8, 17, 17], [8, 17]), ([18], [18])])
def mosaiclaw03_MerkleFolds.B5 : List Nat := [0, 1, 0, 4, 0, 16, 0, 64, 255, 0, 512, 0, 2048, 0, 8192, 0, 32768, 131071, 262143, 524287]
theorem mosaiclaw03_MerkleFolds.tab5 : rtab .any (opsOf Try.f21 5) = mosaiclaw03_MerkleFolds.T5 := by kernel_rfl
theorem mosaiclaw03_MerkleFolds.bits5 : waitsOk mosaiclaw03_MerkleFolds.T5.2 mosaiclaw03_MerkleFolds.B5 = true := by kernel_rfl
def mosaiclaw03_MerkleFolds.T7 : Bool × List (List Nat × List Nat) := (true, [([], []), ([0, 0], [0]), ([1], [1]), ([1], [1]), ([2, 3, 1], [1, 2, 3]), ([1, 4], [1, 4]), ([5, 1], [5]), ([6], [6]), ([6], [6]), ([7, 8, 6], [6, 7, 8]), ([6, 9], [6, 9]), ([10, 6], [10]), ([11], [11]), ([11], [11]), ([13, 11], [11, 13]), ([11], [11]), ([15, 11], [11, 15]), ([11], [11]), ([17, 11], [11, 17]), ([11], [11]), ([19, 11], [11, 19]), ([12, 14, 16, 18, 20, 11, 11], [11, 12, 14, 16, 18, 20]), ([11], [11]), ([11], [11]), ([23, 11], [11, 23]), ([11], [11]), ([25, 11], [11, 25]), ([11], [11]), ([27, 11], [11, 27]), ([11], [11]), ([29, 11], [11, 29]), ([22, 24, 26, 28, 30, 21, 11], [11, 22, 24, 26, 28, 30]), ([21, 31, 11], [11, 21, 31]), ([11, 32], [11, 32]), ([33, 31], [33]), ([34], [34]), ([35, 34], [34, 35]), ([34], [34]), ([37, 34], [34, 37]), ([34], [34]), ([34], [34]), ([40, 34], [34, 40]), ([36, 38, 39, 41, 34, 34], [34, 36, 38, 39, 41]), ([34], [34]), ([43, 34], [34, 43]), ([34], [34]), ([45, 34], [34, 45]), ([34], [34]), ([34], [34]), ([48, 34], [34, 48]), ([44, 46, 47, 49, 42, 34], [34, 44, 46, 47, 49]), ([42, 50, 50, 34], [34, 42, 50]), ([34, 51], [34, 51]), ([52, 51, 0, 1, 2, 3, 4, 5, 6, 7, 8, 9, 10, 11, 12, 13, 14, 15, 16, 17, 18, 19, 20, 21, 22, 23, 24, 25, 26, 27, 28, 29, 30, 31, 32, 33, 34, 35, 36, 37, 38, 39, 40, 41, 42, 43, 44, 45, 46, 47, 48, 49, 50, 51, 52], [52])])
def mosaiclaw03_MerkleFolds.B7 : List Nat := [0, 1, 3, 3, 15, 31, 63, 127, 127, 511, 1023, 2047, 4095, 4095, 12287, 4095, 36863, 4095, 135167, 4095, 528383, 2097151, 4095, 4095, 8392703, 4095, 33558527, 4095, 134221823, 4095, 536875007, 2147483647, 4294967295, 8589934591, 17179869183, 34359738367, 68719476735, 34359738367, 171798691839, 34359738367, 34359738367, 1133871366143, 4398046511103, 34359738367, 8830452760575, 34359738367, 35218731827199, 34359738367, 34359738367, 281509336449023, 1125899906842623, 2251799813685247, 4503599627370495, 9007199254740991]
theorem mosaiclaw03_MerkleFolds.tab7 : rtab .any (opsOf Try.f21 7) = mosaiclaw03_MerkleFolds.T7 := by kernel_rfl
theorem mosaiclaw03_MerkleFolds.bits7 : waitsOk mosaiclaw03_MerkleFolds.T7.2 mosaiclaw03_MerkleFolds.B7 = true := by kernel_rfl
set_option maxHeartbeats 8000000 in
set_option maxRecDepth 100000 in
theorem mosaiclaw03_MerkleFolds.callsT (k : Nat) (a0_0 : Int) (a0_1 : Int) (a0_2 : ByteArray) (A0_3 : Option Addr) (c0_3 : Nat) (l0_3 : List ByteArray) (a1 : ByteArray) (a2 : ByteArray) (w : World) (hr0_3 : Kd.C Kd.string w A0_3 l0_3.length l0_3) (hc0_3 : l0_3.length ≤ c0_3) (h : mosaiclaw03_MerkleFolds.f k a0_0 a0_1 a0_2 l0_3 a1 a2 = some true) :
  Calls Try.prog 21 #[.agg #[.int .i64 a0_0, .int .i64 a0_1, .string a0_2, .slice A0_3 l0_3.length c0_3], .string a1, .string a2] w fun e w' => e = .returned (.bool true) ∧ Below w.heap.size w w' := by
 have hu101 := Try.underlying101
 have HR0_3 := Aside0.mk hr0_3
 have HC0_3 := Aside0.mk hc0_3
 clear hr0_3 hc0_3
 have HB := Aside0.mk (Below.refl w.heap.size w)
 have H : ((mosaiclaw03_few.f k l0_3 12 100).bind fun t689 => (if t689 = true then (if (a0_2.size : Int) > 100 then (mosaiclaw03_MerkleFolds.j0 k a1 a2 true a0_0 a0_1 a0_2 l0_3) else (if (a1.size : Int) > 100 then (mosaiclaw03_MerkleFolds.j0 k a1 a2 true a0_0 a0_1 a0_2 l0_3) else (mosaiclaw03_MerkleFolds.j0 k a1 a2 (decide ((a2.size : Int) > 1100)) a0_0 a0_1 a0_2 l0_3))) else (mosaiclaw03_MerkleFolds.j0 k a1 a2 true a0_0 a0_1 a0_2 l0_3))) = some true := h
 clear h
 have HC4 := Aside0.mk H
 clear H
 go_enter Try.func21, Try.ntmps21
 go_upto_region 1 with (first | ((with_reducible refine gate_dst (N := 3) rfl ?_); (try (refine gate_guard (by rfl) ?_; dsimp only)); refine box_event ?hg (N := 3) ?hd (cs := #[.int .i64 a0_0, .int .i64 a0_1, .string a0_2, .slice A0_3 l0_3.length c0_3]) (t := 101) ?hr ?_; (case hd => rfl); (case hg => rfl); (case hr => first | (go_simp; done) | (go_simp; rfl)); intro gb688 hg w5 hbox hb; have n0_ := Aside0.mk (below_step (by repeat (first | (with_reducible first | exact HB.out | apply below_alloc | apply pw_below_drewN | apply below_drew1) | exact HB.out)) hb); have n1_ := Aside0.mk (hbox); have n2_ := Aside0.mk ((by rw [hg]; exact (below_size (by repeat (first | (with_reducible first | exact HB.out | apply below_alloc | apply pw_below_drewN | apply below_drew1) | exact HB.out))) : w.heap.size ≤ gb688)); have n3_ := Aside0.mk ((by rw [hg]; exact (below_size (by repeat (first | (with_reducible first | exact HB.out | apply below_alloc | apply pw_below_drewN | apply below_drew1) | exact HB.out))) : w.heap.size ≤ gb688)); clear HB; have HB := n0_; have BK688 := n1_; have GW688 := n2_; have GE688 := n3_; clear n0_ n1_ n2_ n3_; clear hb hbox hg))
 (try simp only [Act.put, List.setIfInBounds_toArray, List.set_cons_zero, List.set_cons_succ])
 go_cut [30] (fun v30 wc => ∃ (kq : Nat) (x30_3 : Bool), v30 = .bool x30_3 ∧ Aside0 (mosaiclaw03_MerkleFolds.j0 kq a1 a2 x30_3 a0_0 a0_1 a0_2 l0_3 = some true) ∧ Aside0 (kq ≤ k) ∧ Aside0 (wc.heap[gb688]? = some (.cells #[.int .i64 a0_0, .int .i64 a0_1, .string a0_2, (.slice A0_3 l0_3.length c0_3)] 101 (0, 0))) ∧ Aside0 (Below w.heap.size w wc))
 case first =>
  have H := HC4.out
  clear HC4
  replace H := Option.bind_eq_some_iff.mp H
  obtain ⟨t689, A60, H⟩ := H
  replace H : (if t689 = true then (if (a0_2.size : Int) > 100 then (mosaiclaw03_MerkleFolds.j0 k a1 a2 true a0_0 a0_1 a0_2 l0_3) else (if (a1.size : Int) > 100 then (mosaiclaw03_MerkleFolds.j0 k a1 a2 true a0_0 a0_1 a0_2 l0_3) else (mosaiclaw03_MerkleFolds.j0 k a1 a2 (decide ((a2.size : Int) > 1100)) a0_0 a0_1 a0_2 l0_3))) else (mosaiclaw03_MerkleFolds.j0 k a1 a2 true a0_0 a0_1 a0_2 l0_3)) = some true := H
  have A6 := Aside0.mk A60
  clear A60
  by_cases c7 : t689 = true
  ·
   subst c7
   have H1 : (if (a0_2.size : Int) > 100 then (mosaiclaw03_MerkleFolds.j0 k a1 a2 true a0_0 a0_1 a0_2 l0_3) else (if (a1.size : Int) > 100 then (mosaiclaw03_MerkleFolds.j0 k a1 a2 true a0_0 a0_1 a0_2 l0_3) else (mosaiclaw03_MerkleFolds.j0 k a1 a2 (decide ((a2.size : Int) > 1100)) a0_0 a0_1 a0_2 l0_3))) = some true := by rw [if_pos rfl] at H; exact H
   clear H
   have H := H1
   clear H1
   by_cases c8 : (a0_2.size : Int) > 100
   ·
    rw [if_pos c8] at H
    have c8b0 : decide (100 < (a0_2.size : Int)) = true := decide_eq_true c8
    have c8b1 : decide (100 < a0_2.size) = true := decide_eq_true (by omega)
    clear c8
    (first | rw [c8b0] | (simp only [i64_w, i32_w]; rw [c8b0]) | skip)
    have H' := Aside0.mk H
    clear H
    have hcz9_0 : w5.cell? ⟨gb688, 0, none⟩ = some (.int .i64 a0_0) := (blk_cell BK688.out 0).trans rfl
    have hcz9_1 : w5.cell? ⟨gb688, 1, none⟩ = some (.int .i64 a0_1) := (blk_cell BK688.out 1).trans rfl
    have hcz9_2 : w5.cell? ⟨gb688, 2, none⟩ = some (.string a0_2) := (blk_cell BK688.out 2).trans rfl
    have hcz9_3 : w5.cell? ⟨gb688, 3, none⟩ = some (.slice A0_3 l0_3.length c0_3) := (blk_cell BK688.out 3).trans rfl
    have hfz9_0 := blk_frozen BK688.out 0
    have hfz9_1 := blk_frozen BK688.out 1
    have hfz9_2 := blk_frozen BK688.out 2
    have hfz9_3 := blk_frozen BK688.out 3
    go_wp2_with (first | ((with_reducible refine gate_callee (f := 44) rfl ?_); refine goesL_ (some 13) rfl rfl Try.func44 (by kernel_rfl) rfl #[.slice A0_3 l0_3.length c0_3, .int .i64 12, .int .i64 100] rfl (by (try simp only [List.map_toArray, List.map_cons, List.map_nil]); first | done | rfl | (simp only [List.length_drop, List.length_take]; rfl)) ?_; (with_reducible refine (mosaiclaw03_few.calls k _ _ l0_3 12 100 true _ ?side1 ?side2 A6.out).mono ?_); (case side1 => repeat (first | exact (Kd.C_below HR0_3.out HB.out) | (with_reducible refine Kd.C_alloc ?_ _) | (with_reducible refine Kd.C_drewN ?_ _) | (with_reducible refine Kd.C_drew ?_))); (case side2 => exact HC0_3.out); rintro e w' ⟨rfl, ⟨nd, rfl⟩⟩; refine ⟨_, rfl, ?_⟩))
    go_meet
    case rel => exact ⟨_, (true), (by first | rfl | (simp; done) | (simp [*]; done)), H', ⟨by first | omega | exact Nat.le_refl _⟩, ⟨by (with_reducible repeat (first | refine blk_drewN ?_ _ | refine blk_drew ?_ | refine blk_alloc ?_ _)); exact BK688.out⟩, ⟨by repeat (first | (with_reducible first | exact HB.out | apply below_alloc | apply pw_below_drewN | apply below_drew1 | refine below_set ?_ GE688.out) | exact HB.out)⟩⟩
   ·
    rw [if_neg c8] at H
    have c8b0 : decide (100 < (a0_2.size : Int)) = false := decide_eq_false c8
    have c8b1 : decide (100 < a0_2.size) = false := decide_eq_false (by omega)
    clear c8
    (first | rw [c8b0] | (simp only [i64_w, i32_w]; rw [c8b0]) | skip)
    by_cases c10 : (a1.size : Int) > 100
    ·
     rw [if_pos c10] at H
     have c10b0 : decide (100 < (a1.size : Int)) = true := decide_eq_true c10
     have c10b1 : decide (100 < a1.size) = true := decide_eq_true (by omega)
     clear c10
     have H' := Aside0.mk H
     clear H
     have hcz11_0 : w5.cell? ⟨gb688, 0, none⟩ = some (.int .i64 a0_0) := (blk_cell BK688.out 0).trans rfl
     have hcz11_1 : w5.cell? ⟨gb688, 1, none⟩ = some (.int .i64 a0_1) := (blk_cell BK688.out 1).trans rfl
     have hcz11_2 : w5.cell? ⟨gb688, 2, none⟩ = some (.string a0_2) := (blk_cell BK688.out 2).trans rfl
     have hcz11_3 : w5.cell? ⟨gb688, 3, none⟩ = some (.slice A0_3 l0_3.length c0_3) := (blk_cell BK688.out 3).trans rfl
     have hfz11_0 := blk_frozen BK688.out 0
     have hfz11_1 := blk_frozen BK688.out 1
     have hfz11_2 := blk_frozen BK688.out 2
     have hfz11_3 := blk_frozen BK688.out 3
     go_wp2_with (first | ((with_reducible refine gate_callee (f := 44) rfl ?_); refine goesL_ (some 13) rfl rfl Try.func44 (by kernel_rfl) rfl #[.slice A0_3 l0_3.length c0_3, .int .i64 12, .int .i64 100] rfl (by (try simp only [List.map_toArray, List.map_cons, List.map_nil]); first | done | rfl | (simp only [List.length_drop, List.length_take]; rfl)) ?_; (with_reducible refine (mosaiclaw03_few.calls k _ _ l0_3 12 100 true _ ?side1 ?side2 A6.out).mono ?_); (case side1 => repeat (first | exact (Kd.C_below HR0_3.out HB.out) | (with_reducible refine Kd.C_alloc ?_ _) | (with_reducible refine Kd.C_drewN ?_ _) | (with_reducible refine Kd.C_drew ?_))); (case side2 => exact HC0_3.out); rintro e w' ⟨rfl, ⟨nd, rfl⟩⟩; refine ⟨_, rfl, ?_⟩))
     go_meet
     case rel => exact ⟨_, (true), (by first | rfl | (simp; done) | (simp [*]; done)), H', ⟨by first | omega | exact Nat.le_refl _⟩, ⟨by (with_reducible repeat (first | refine blk_drewN ?_ _ | refine blk_drew ?_ | refine blk_alloc ?_ _)); exact BK688.out⟩, ⟨by repeat (first | (with_reducible first | exact HB.out | apply below_alloc | apply pw_below_drewN | apply below_drew1 | refine below_set ?_ GE688.out) | exact HB.out)⟩⟩
    ·
     rw [if_neg c10] at H
     have c10b0 : decide (100 < (a1.size : Int)) = false := decide_eq_false c10
     have c10b1 : decide (100 < a1.size) = false := decide_eq_false (by omega)
     clear c10
     have H' := Aside0.mk H
     clear H
     have hcz12_0 : w5.cell? ⟨gb688, 0, none⟩ = some (.int .i64 a0_0) := (blk_cell BK688.out 0).trans rfl
     have hcz12_1 : w5.cell? ⟨gb688, 1, none⟩ = some (.int .i64 a0_1) := (blk_cell BK688.out 1).trans rfl
     have hcz12_2 : w5.cell? ⟨gb688, 2, none⟩ = some (.string a0_2) := (blk_cell BK688.out 2).trans rfl
     have hcz12_3 : w5.cell? ⟨gb688, 3, none⟩ = some (.slice A0_3 l0_3.length c0_3) := (blk_cell BK688.out 3).trans rfl
     have hfz12_0 := blk_frozen BK688.out 0
     have hfz12_1 := blk_frozen BK688.out 1
     have hfz12_2 := blk_frozen BK688.out 2
     have hfz12_3 := blk_frozen BK688.out 3
     go_wp2_with (first | ((with_reducible refine gate_callee (f := 44) rfl ?_); refine goesL_ (some 13) rfl rfl Try.func44 (by kernel_rfl) rfl #[.slice A0_3 l0_3.length c0_3, .int .i64 12, .int .i64 100] rfl (by (try simp only [List.map_toArray, List.map_cons, List.map_nil]); first | done | rfl | (simp only [List.length_drop, List.length_take]; rfl)) ?_; (with_reducible refine (mosaiclaw03_few.calls k _ _ l0_3 12 100 true _ ?side1 ?side2 A6.out).mono ?_); (case side1 => repeat (first | exact (Kd.C_below HR0_3.out HB.out) | (with_reducible refine Kd.C_alloc ?_ _) | (with_reducible refine Kd.C_drewN ?_ _) | (with_reducible refine Kd.C_drew ?_))); (case side2 => exact HC0_3.out); rintro e w' ⟨rfl, ⟨nd, rfl⟩⟩; refine ⟨_, rfl, ?_⟩))
     go_meet
     case rel => exact ⟨_, (decide ((a2.size : Int) > 1100)), (by first | rfl | (simp; done) | (simp [*]; done)), H', ⟨by first | omega | exact Nat.le_refl _⟩, ⟨by (with_reducible repeat (first | refine blk_drewN ?_ _ | refine blk_drew ?_ | refine blk_alloc ?_ _)); exact BK688.out⟩, ⟨by repeat (first | (with_reducible first | exact HB.out | apply below_alloc | apply pw_below_drewN | apply below_drew1 | refine below_set ?_ GE688.out) | exact HB.out)⟩⟩
  ·
   replace c7 := Bool.eq_false_iff.mpr c7
   subst c7
   have H1 : (mosaiclaw03_MerkleFolds.j0 k a1 a2 true a0_0 a0_1 a0_2 l0_3) = some true := by rw [if_neg (show ¬ (false = true) by decide)] at H; exact H
   clear H
   have H := H1
   clear H1
   have H' := Aside0.mk H
   clear H
   have hcz13_0 : w5.cell? ⟨gb688, 0, none⟩ = some (.int .i64 a0_0) := (blk_cell BK688.out 0).trans rfl
   have hcz13_1 : w5.cell? ⟨gb688, 1, none⟩ = some (.int .i64 a0_1) := (blk_cell BK688.out 1).trans rfl
   have hcz13_2 : w5.cell? ⟨gb688, 2, none⟩ = some (.string a0_2) := (blk_cell BK688.out 2).trans rfl
   have hcz13_3 : w5.cell? ⟨gb688, 3, none⟩ = some (.slice A0_3 l0_3.length c0_3) := (blk_cell BK688.out 3).trans rfl
   have hfz13_0 := blk_frozen BK688.out 0
   have hfz13_1 := blk_frozen BK688.out 1
   have hfz13_2 := blk_frozen BK688.out 2
   have hfz13_3 := blk_frozen BK688.out 3
   go_wp2_with (first | ((with_reducible refine gate_callee (f := 44) rfl ?_); refine goesL_ (some 13) rfl rfl Try.func44 (by kernel_rfl) rfl #[.slice A0_3 l0_3.length c0_3, .int .i64 12, .int .i64 100] rfl (by (try simp only [List.map_toArray, List.map_cons, List.map_nil]); first | done | rfl | (simp only [List.length_drop, List.length_take]; rfl)) ?_; (with_reducible refine (mosaiclaw03_few.calls k _ _ l0_3 12 100 false _ ?side1 ?side2 A6.out).mono ?_); (case side1 => repeat (first | exact (Kd.C_below HR0_3.out HB.out) | (with_reducible refine Kd.C_alloc ?_ _) | (with_reducible refine Kd.C_drewN ?_ _) | (with_reducible refine Kd.C_drew ?_))); (case side2 => exact HC0_3.out); rintro e w' ⟨rfl, ⟨nd, rfl⟩⟩; refine ⟨_, rfl, ?_⟩))
   go_meet
   case rel => exact ⟨_, (true), (by first | rfl | (simp; done) | (simp [*]; done)), H', ⟨by first | omega | exact Nat.le_refl _⟩, ⟨by (with_reducible repeat (first | refine blk_drewN ?_ _ | refine blk_drew ?_ | refine blk_alloc ?_ _)); exact BK688.out⟩, ⟨by repeat (first | (with_reducible first | exact HB.out | apply below_alloc | apply pw_below_drewN | apply below_drew1 | refine below_set ?_ GE688.out) | exact HB.out)⟩⟩
 case rest =>
  clear HC4
  try clear c1
  try clear c2
  try clear p2
  try clear c4
  try clear c7
  try clear c8
  try clear c8b0
  try clear c8b1
  try clear c10
  try clear c10b0
  try clear c10b1
  try clear hcz11_0
  try clear hcz11_1
  try clear hcz11_2
  try clear hcz11_3
  try clear hcz12_0
  try clear hcz12_1
  try clear hcz12_2
  try clear hcz12_3
  try clear hcz13_0
  try clear hcz13_1
  try clear hcz13_2
  try clear hcz13_3
  try clear hcz9_0
  try clear hcz9_1
  try clear hcz9_2
  try clear hcz9_3
  try clear hfz11_0
  try clear hfz11_1
  try clear hfz11_2
  try clear hfz11_3
  try clear hfz12_0
  try clear hfz12_1
  try clear hfz12_2
  try clear hfz12_3
  try clear hfz13_0
  try clear hfz13_1
  try clear hfz13_2
  try clear hfz13_3
  try clear hfz9_0
  try clear hfz9_1
  try clear hfz9_2
  try clear hfz9_3
  obtain ⟨kq, x30_3, rfl, HA, HJ3, BK688, HB⟩ := hcut
  cases kq with
  | zero => exact absurd HA.out (by simp [mosaiclaw03_MerkleFolds.j0])
  | succ kj3 =>
   have H := HA.out
   clear HA
   simp only [mosaiclaw03_MerkleFolds.j0] at H
   by_cases c14 : x30_3 = true
   ·
    subst c14
    have H1 : ((mosaiclaw03_awake.f kj3).bind fun t690 => (some t690)) = some true := by rw [if_pos rfl] at H; exact H
    clear H
    have H := H1
    clear H1
    replace H := Option.bind_eq_some_iff.mp H
    obtain ⟨t690, A150, H⟩ := H
    replace H : (some t690) = some true := H
    have A15 := Aside0.mk A150
    clear A150
    obtain rfl := Option.some.inj H
    go_wp2_with (first | ((with_reducible refine gate_callee (f := 45) rfl ?_); refine goesL_ (some 31) rfl rfl Try.func45 (by kernel_rfl) rfl #[] rfl (by (try simp only [List.map_toArray, List.map_cons, List.map_nil]); first | done | rfl | (simp only [List.length_drop, List.length_take]; rfl)) ?_; (with_reducible refine (mosaiclaw03_awake.calls kj3  true _ A15.out).mono ?_); rintro e w16 ⟨rfl, hb⟩; refine ⟨_, rfl, ?_⟩; have n0_ := Aside0.mk (blk_below (g := gb688) (o := .cells #[.int .i64 a0_0, .int .i64 a0_1, .string a0_2, .slice A0_3 l0_3.length c0_3] 101 (0, 0)) (by (with_reducible repeat (first | refine blk_drewN ?_ _ | refine blk_drew ?_ | refine blk_alloc ?_ _)); exact BK688.out) hb); have n1_ := Aside0.mk (below_step (by repeat (first | (with_reducible first | exact HB.out | apply below_alloc | apply pw_below_drewN | apply below_drew1 | refine below_set ?_ GE688.out) | exact HB.out)) hb); clear BK688; clear HB; have BK688 := n0_; have HB := n1_; clear n0_ n1_; (try clear hb); (try clear hb2); (try clear hk); (try clear hi)))
    go_ret
    exact ⟨by first | rfl | (simp [errW_none, errW_some] <;> rfl) | (simp [*, errW_none, errW_some] <;> rfl), by repeat (first | (with_reducible first | exact HB.out | apply below_alloc | apply pw_below_drewN | apply below_drew1 | refine below_set ?_ GE688.out) | exact HB.out)⟩
   ·
    replace c14 := Bool.eq_false_iff.mpr c14
    subst c14
    have H1 : ((merkle_Fold.f kj3 a0_0 a0_1 a0_2 l0_3).bind fun bt691 => ((mosaicref03_Fold.f kj3 a0_0 a0_1 a0_2 l0_3).bind fun bt693 => ((merkle_Climb.f kj3 a0_0 a0_1 a0_2 l0_3).bind fun t695 => ((mosaicref03_Climb.f kj3 a0_0 a0_1 a0_2 l0_3).bind fun t698 => ((mosaicref03_Same.f kj3 t695 t698).bind fun t701 => (if t701 = true then ((mosaiclaw03_awake.f kj3).bind fun t702 => (if t702 = true then (if bt691.1.toList = bt693.1.toList then (if bt691.2 = bt693.2 then ((merkle_Check.f kj3 a1 a0_0 a0_1 a0_2 l0_3).bind fun t703 => ((mosaicref03_Check.f kj3 a1 a0_0 a0_1 a0_2 l0_3).bind fun t704 => (if (t703 == t704) = true then ((merkle_Road.f kj3 a0_0 a0_1 a2 l0_3).bind fun t705 => ((mosaicref03_Road.f kj3 a0_0 a0_1 a2 l0_3).bind fun t708 => ((mosaicref03_Same.f kj3 t705 t708).bind fun t711 => (some t711)))) else (some false)))) else (some false)) else (some false)) else (some false))) else (some false))))))) = some true := by rw [if_neg (show ¬ (false = true) by decide)] at H; exact H
    clear H
    have H := H1
    clear H1
    replace H := Option.bind_eq_some_iff.mp H
    obtain ⟨⟨t691, t692⟩, A170, H⟩ := H
    replace H : ((mosaicref03_Fold.f kj3 a0_0 a0_1 a0_2 l0_3).bind fun bt693 => ((merkle_Climb.f kj3 a0_0 a0_1 a0_2 l0_3).bind fun t695 => ((mosaicref03_Climb.f kj3 a0_0 a0_1 a0_2 l0_3).bind fun t698 => ((mosaicref03_Same.f kj3 t695 t698).bind fun t701 => (if t701 = true then ((mosaiclaw03_awake.f kj3).bind fun t702 => (if t702 = true then (if t691.toList = bt693.1.toList then (if t692 = bt693.2 then ((merkle_Check.f kj3 a1 a0_0 a0_1 a0_2 l0_3).bind fun t703 => ((mosaicref03_Check.f kj3 a1 a0_0 a0_1 a0_2 l0_3).bind fun t704 => (if (t703 == t704) = true then ((merkle_Road.f kj3 a0_0 a0_1 a2 l0_3).bind fun t705 => ((mosaicref03_Road.f kj3 a0_0 a0_1 a2 l0_3).bind fun t708 => ((mosaicref03_Same.f kj3 t705 t708).bind fun t711 => (some t711)))) else (some false)))) else (some false)) else (some false)) else (some false))) else (some false)))))) = some true := H
    have A17 := Aside0.mk A170
    clear A170
    replace H := Option.bind_eq_some_iff.mp H
    obtain ⟨⟨t693, t694⟩, A180, H⟩ := H
    replace H : ((merkle_Climb.f kj3 a0_0 a0_1 a0_2 l0_3).bind fun t695 => ((mosaicref03_Climb.f kj3 a0_0 a0_1 a0_2 l0_3).bind fun t698 => ((mosaicref03_Same.f kj3 t695 t698).bind fun t701 => (if t701 = true then ((mosaiclaw03_awake.f kj3).bind fun t702 => (if t702 = true then (if t691.toList = t693.toList then (if t692 = t694 then ((merkle_Check.f kj3 a1 a0_0 a0_1 a0_2 l0_3).bind fun t703 => ((mosaicref03_Check.f kj3 a1 a0_0 a0_1 a0_2 l0_3).bind fun t704 => (if (t703 == t704) = true then ((merkle_Road.f kj3 a0_0 a0_1 a2 l0_3).bind fun t705 => ((mosaicref03_Road.f kj3 a0_0 a0_1 a2 l0_3).bind fun t708 => ((mosaicref03_Same.f kj3 t705 t708).bind fun t711 => (some t711)))) else (some false)))) else (some false)) else (some false)) else (some false))) else (some false))))) = some true := H
    have A18 := Aside0.mk A180
    clear A180
    replace H := Option.bind_eq_some_iff.mp H
    obtain ⟨t695, A190, H⟩ := H
    replace H : ((mosaicref03_Climb.f kj3 a0_0 a0_1 a0_2 l0_3).bind fun t698 => ((mosaicref03_Same.f kj3 t695 t698).bind fun t701 => (if t701 = true then ((mosaiclaw03_awake.f kj3).bind fun t702 => (if t702 = true then (if t691.toList = t693.toList then (if t692 = t694 then ((merkle_Check.f kj3 a1 a0_0 a0_1 a0_2 l0_3).bind fun t703 => ((mosaicref03_Check.f kj3 a1 a0_0 a0_1 a0_2 l0_3).bind fun t704 => (if (t703 == t704) = true then ((merkle_Road.f kj3 a0_0 a0_1 a2 l0_3).bind fun t705 => ((mosaicref03_Road.f kj3 a0_0 a0_1 a2 l0_3).bind fun t708 => ((mosaicref03_Same.f kj3 t705 t708).bind fun t711 => (some t711)))) else (some false)))) else (some false)) else (some false)) else (some false))) else (some false)))) = some true := H
    have A19 := Aside0.mk A190
    clear A190
    replace H := Option.bind_eq_some_iff.mp H
    obtain ⟨t698, A200, H⟩ := H
    replace H : ((mosaicref03_Same.f kj3 t695 t698).bind fun t701 => (if t701 = true then ((mosaiclaw03_awake.f kj3).bind fun t702 => (if t702 = true then (if t691.toList = t693.toList then (if t692 = t694 then ((merkle_Check.f kj3 a1 a0_0 a0_1 a0_2 l0_3).bind fun t703 => ((mosaicref03_Check.f kj3 a1 a0_0 a0_1 a0_2 l0_3).bind fun t704 => (if (t703 == t704) = true then ((merkle_Road.f kj3 a0_0 a0_1 a2 l0_3).bind fun t705 => ((mosaicref03_Road.f kj3 a0_0 a0_1 a2 l0_3).bind fun t708 => ((mosaicref03_Same.f kj3 t705 t708).bind fun t711 => (some t711)))) else (some false)))) else (some false)) else (some false)) else (some false))) else (some false))) = some true := H
    have A20 := Aside0.mk A200
    clear A200
    replace H := Option.bind_eq_some_iff.mp H
    obtain ⟨t701, A210, H⟩ := H
    replace H : (if t701 = true then ((mosaiclaw03_awake.f kj3).bind fun t702 => (if t702 = true then (if t691.toList = t693.toList then (if t692 = t694 then ((merkle_Check.f kj3 a1 a0_0 a0_1 a0_2 l0_3).bind fun t703 => ((mosaicref03_Check.f kj3 a1 a0_0 a0_1 a0_2 l0_3).bind fun t704 => (if (t703 == t704) = true then ((merkle_Road.f kj3 a0_0 a0_1 a2 l0_3).bind fun t705 => ((mosaicref03_Road.f kj3 a0_0 a0_1 a2 l0_3).bind fun t708 => ((mosaicref03_Same.f kj3 t705 t708).bind fun t711 => (some t711)))) else (some false)))) else (some false)) else (some false)) else (some false))) else (some false)) = some true := H
    have A21 := Aside0.mk A210
    clear A210
    by_cases c22 : t701 = true
    ·
     subst c22
     have H1 : ((mosaiclaw03_awake.f kj3).bind fun t702 => (if t702 = true then (if t691.toList = t693.toList then (if t692 = t694 then ((merkle_Check.f kj3 a1 a0_0 a0_1 a0_2 l0_3).bind fun t703 => ((mosaicref03_Check.f kj3 a1 a0_0 a0_1 a0_2 l0_3).bind fun t704 => (if (t703 == t704) = true then ((merkle_Road.f kj3 a0_0 a0_1 a2 l0_3).bind fun t705 => ((mosaicref03_Road.f kj3 a0_0 a0_1 a2 l0_3).bind fun t708 => ((mosaicref03_Same.f kj3 t705 t708).bind fun t711 => (some t711)))) else (some false)))) else (some false)) else (some false)) else (some false))) = some true := by rw [if_pos rfl] at H; exact H
     clear H
     have H := H1
     clear H1
     replace H := Option.bind_eq_some_iff.mp H
     obtain ⟨t702, A230, H⟩ := H
     replace H : (if t702 = true then (if t691.toList = t693.toList then (if t692 = t694 then ((merkle_Check.f kj3 a1 a0_0 a0_1 a0_2 l0_3).bind fun t703 => ((mosaicref03_Check.f kj3 a1 a0_0 a0_1 a0_2 l0_3).bind fun t704 => (if (t703 == t704) = true then ((merkle_Road.f kj3 a0_0 a0_1 a2 l0_3).bind fun t705 => ((mosaicref03_Road.f kj3 a0_0 a0_1 a2 l0_3).bind fun t708 => ((mosaicref03_Same.f kj3 t705 t708).bind fun t711 => (some t711)))) else (some false)))) else (some false)) else (some false)) else (some false)) = some true := H
     have A23 := Aside0.mk A230
     clear A230
     by_cases c24 : t702 = true
     ·
      subst c24
      have H1 : (if t691.toList = t693.toList then (if t692 = t694 then ((merkle_Check.f kj3 a1 a0_0 a0_1 a0_2 l0_3).bind fun t703 => ((mosaicref03_Check.f kj3 a1 a0_0 a0_1 a0_2 l0_3).bind fun t704 => (if (t703 == t704) = true then ((merkle_Road.f kj3 a0_0 a0_1 a2 l0_3).bind fun t705 => ((mosaicref03_Road.f kj3 a0_0 a0_1 a2 l0_3).bind fun t708 => ((mosaicref03_Same.f kj3 t705 t708).bind fun t711 => (some t711)))) else (some false)))) else (some false)) else (some false)) = some true := by rw [if_pos rfl] at H; exact H
      clear H
      have H := H1
      clear H1
      by_cases c25 : t691.toList = t693.toList
      ·
       rw [if_pos c25] at H
       have c25b0 : (t691.toList == t693.toList) = true := beq_iff_eq.mpr c25
       have c25b1 : (t691.toList != t693.toList) = false := bne_eq_false_iff_eq.mpr c25
       clear c25
       by_cases c26 : t692 = t694
       ·
        rw [if_pos c26] at H
        have c26b0 : (t692 == t694) = true := beq_iff_eq.mpr c26
        have c26b1 : (t692 != t694) = false := bne_eq_false_iff_eq.mpr c26
        clear c26
        replace H := Option.bind_eq_some_iff.mp H
        obtain ⟨t703, A270, H⟩ := H
        replace H : ((mosaicref03_Check.f kj3 a1 a0_0 a0_1 a0_2 l0_3).bind fun t704 => (if (t703 == t704) = true then ((merkle_Road.f kj3 a0_0 a0_1 a2 l0_3).bind fun t705 => ((mosaicref03_Road.f kj3 a0_0 a0_1 a2 l0_3).bind fun t708 => ((mosaicref03_Same.f kj3 t705 t708).bind fun t711 => (some t711)))) else (some false))) = some true := H
        have A27 := Aside0.mk A270
        clear A270
        replace H := Option.bind_eq_some_iff.mp H
        obtain ⟨t704, A280, H⟩ := H
        replace H : (if (t703 == t704) = true then ((merkle_Road.f kj3 a0_0 a0_1 a2 l0_3).bind fun t705 => ((mosaicref03_Road.f kj3 a0_0 a0_1 a2 l0_3).bind fun t708 => ((mosaicref03_Same.f kj3 t705 t708).bind fun t711 => (some t711)))) else (some false)) = some true := H
        have A28 := Aside0.mk A280
        clear A280
        by_cases c29 : (t703 == t704) = true
        ·
         rw [if_pos c29] at H
         have c29b0 : (t703 == t704) = true := c29
         (try (have c29b1 : decide (t703 = t704) = true := by simpa using c29))
         (try (have c29b2 : (t703 == t704) = true := by simpa using c29))
         clear c29
         replace H := Option.bind_eq_some_iff.mp H
         obtain ⟨t705, A300, H⟩ := H
         replace H : ((mosaicref03_Road.f kj3 a0_0 a0_1 a2 l0_3).bind fun t708 => ((mosaicref03_Same.f kj3 t705 t708).bind fun t711 => (some t711))) = some true := H
         have A30 := Aside0.mk A300
         clear A300
         replace H := Option.bind_eq_some_iff.mp H
         obtain ⟨t708, A310, H⟩ := H
         replace H : ((mosaicref03_Same.f kj3 t705 t708).bind fun t711 => (some t711)) = some true := H
         have A31 := Aside0.mk A310
         clear A310
         replace H := Option.bind_eq_some_iff.mp H
         obtain ⟨t711, A320, H⟩ := H
         replace H : (some t711) = some true := H
         have A32 := Aside0.mk A320
         clear A320
         obtain rfl := Option.some.inj H
         have hcz33_0 : wc.cell? ⟨gb688, 0, none⟩ = some (.int .i64 a0_0) := (blk_cell BK688.out 0).trans rfl
         have hcz33_1 : wc.cell? ⟨gb688, 1, none⟩ = some (.int .i64 a0_1) := (blk_cell BK688.out 1).trans rfl
         have hcz33_2 : wc.cell? ⟨gb688, 2, none⟩ = some (.string a0_2) := (blk_cell BK688.out 2).trans rfl
         have hcz33_3 : wc.cell? ⟨gb688, 3, none⟩ = some (.slice A0_3 l0_3.length c0_3) := (blk_cell BK688.out 3).trans rfl
         have hfz33_0 := blk_frozen BK688.out 0
         have hfz33_1 := blk_frozen BK688.out 1
         have hfz33_2 := blk_frozen BK688.out 2
         have hfz33_3 := blk_frozen BK688.out 3
         try go_wp2_with (first | ((with_reducible refine gate_callee (f := 75) rfl ?_); refine goesL_ (some 41) rfl rfl Try.func75 (by kernel_rfl) rfl #[.int .i64 a0_0, .int .i64 a0_1, .string a0_2, .slice A0_3 l0_3.length c0_3] rfl (by (try simp only [List.map_toArray, List.map_cons, List.map_nil]); first | done | rfl | (simp only [List.length_drop, List.length_take]; rfl)) ?_; (with_reducible refine (merkle_Fold.calls kj3 a0_0 a0_1 a0_2 _ _ l0_3 t691 t692 _ ?side1 ?side2 A17.out).mono ?_); (case side1 => repeat (first | exact (Kd.C_below HR0_3.out HB.out) | (with_reducible refine Kd.C_alloc ?_ _) | (with_reducible refine Kd.C_drewN ?_ _) | (with_reducible refine Kd.C_drew ?_))); (case side2 => exact HC0_3.out); rintro e w34 ⟨rfl, hb⟩; refine ⟨_, rfl, ?_⟩; have n0_ := Aside0.mk (blk_below (g := gb688) (o := .cells #[.int .i64 a0_0, .int .i64 a0_1, .string a0_2, .slice A0_3 l0_3.length c0_3] 101 (0, 0)) (by (with_reducible repeat (first | refine blk_drewN ?_ _ | refine blk_drew ?_ | refine blk_alloc ?_ _)); exact BK688.out) hb); have n1_ := Aside0.mk (below_step (by repeat (first | (with_reducible first | exact HB.out | apply below_alloc | apply pw_below_drewN | apply below_drew1 | refine below_set ?_ GE688.out) | exact HB.out)) hb); clear BK688; clear HB; have BK688 := n0_; have HB := n1_; clear n0_ n1_; (try clear hb); (try clear hb2); (try clear hk); (try clear hi); have hcz35_0 : w34.cell? ⟨gb688, 0, none⟩ = some (.int .i64 a0_0) := (blk_cell BK688.out 0).trans rfl; have hcz35_1 : w34.cell? ⟨gb688, 1, none⟩ = some (.int .i64 a0_1) := (blk_cell BK688.out 1).trans rfl; have hcz35_2 : w34.cell? ⟨gb688, 2, none⟩ = some (.string a0_2) := (blk_cell BK688.out 2).trans rfl; have hcz35_3 : w34.cell? ⟨gb688, 3, none⟩ = some (.slice A0_3 l0_3.length c0_3) := (blk_cell BK688.out 3).trans rfl; have hfz35_0 := blk_frozen BK688.out 0; have hfz35_1 := blk_frozen BK688.out 1; have hfz35_2 := blk_frozen BK688.out 2; have hfz35_3 := blk_frozen BK688.out 3) | ((with_reducible refine gate_callee (f := 76) rfl ?_); refine goesL_ (some 53) rfl rfl Try.func76 (by kernel_rfl) rfl #[.int .i64 a0_0, .int .i64 a0_1, .string a0_2, .slice A0_3 l0_3.length c0_3] rfl (by (try simp only [List.map_toArray, List.map_cons, List.map_nil]); first | done | rfl | (simp only [List.length_drop, List.length_take]; rfl)) ?_; (with_reducible refine (mosaicref03_Fold.calls kj3 a0_0 a0_1 a0_2 _ _ l0_3 t693 t694 _ ?side1 ?side2 A18.out).mono ?_); (case side1 => repeat (first | exact (Kd.C_below HR0_3.out HB.out) | (with_reducible refine Kd.C_alloc ?_ _) | (with_reducible refine Kd.C_drewN ?_ _) | (with_reducible refine Kd.C_drew ?_))); (case side2 => exact HC0_3.out); rintro e w36 ⟨rfl, hb⟩; refine ⟨_, rfl, ?_⟩; have n0_ := Aside0.mk (blk_below (g := gb688) (o := .cells #[.int .i64 a0_0, .int .i64 a0_1, .string a0_2, .slice A0_3 l0_3.length c0_3] 101 (0, 0)) (by (with_reducible repeat (first | refine blk_drewN ?_ _ | refine blk_drew ?_ | refine blk_alloc ?_ _)); exact BK688.out) hb); have n1_ := Aside0.mk (below_step (by repeat (first | (with_reducible first | exact HB.out | apply below_alloc | apply pw_below_drewN | apply below_drew1 | refine below_set ?_ GE688.out) | exact HB.out)) hb); clear BK688; clear HB; have BK688 := n0_; have HB := n1_; clear n0_ n1_; (try clear hb); (try clear hb2); (try clear hk); (try clear hi)))
         have n0_ := Aside0.mk (blk_drew BK688.out)
         have n1_ := Aside0.mk (below_drew1 HB.out)
         clear BK688
         clear HB
         have BK688 := n0_
         have HB := n1_
         clear n0_ n1_
         refine start_ (n := 20) (S := fun w' => w'.cell? ⟨gb688, 0, none⟩ = some (.int .i64 a0_0) ∧ w'.cell? ⟨gb688, 1, none⟩ = some (.int .i64 a0_1) ∧ w'.cell? ⟨gb688, 2, none⟩ = some (.string a0_2) ∧ w'.cell? ⟨gb688, 3, none⟩ = some (.slice A0_3 l0_3.length c0_3)) (ds := []) #[false, false, false, false, false, false, false, false, false, false, false, false, false, false, false, false, false, false, false, false] (by kernel_rfl) rfl rfl ⟨(blk_cell BK688.out 0).trans rfl, (blk_cell BK688.out 1).trans rfl, (blk_cell BK688.out 2).trans rfl, (blk_cell BK688.out 3).trans rfl⟩ (fun hHeld => ?_); refine with_tabW mosaiclaw03_MerkleFolds.tab5 mosaiclaw03_MerkleFolds.bits5 (fun HT_ HW_ => ?_)
         generalize w36.drew = w37 at BK688 HB hHeld ⊢
         refine pure_ (i := 0) (N := some 56) (v := ?_) (a' := ?_) #[true, false, false, false, false, false, false, false, false, false, false, false, false, false, false, false, false, false, false, false] rfl rfl (any_of HT_.out (by kernel_rfl)) (fun _ _ _ h => h) (Or.inl ⟨by rfl, ?_⟩) ?_ ?_
         rotate_left
         ·
          intro w'
          go_simp
          with_reducible rfl
         rotate_left
         ·
          simp only [Act.put, List.setIfInBounds_toArray, List.set_cons_zero, List.set_cons_succ, i64_w, i32_w]
          rfl
         refine pure_ (i := 2) (N := some 58) (v := ?_) (a' := ?_) #[true, false, true, false, false, false, false, false, false, false, false, false, false, false, false, false, false, false, false, false] rfl rfl (any_of HT_.out (by kernel_rfl)) (fun _ _ _ h => h) (Or.inl ⟨by rfl, ?_⟩) ?_ ?_
         rotate_left
         ·
          intro w'
          go_simp
          with_reducible rfl
         rotate_left
         ·
          simp only [Act.put, List.setIfInBounds_toArray, List.set_cons_zero, List.set_cons_succ, i64_w, i32_w]
          rfl
         refine pure_ (i := 4) (N := some 60) (v := ?_) (a' := ?_) #[true, false, true, false, true, false, false, false, false, false, false, false, false, false, false, false, false, false, false, false] rfl rfl (any_of HT_.out (by kernel_rfl)) (fun _ _ _ h => h) (Or.inl ⟨by rfl, ?_⟩) ?_ ?_
         rotate_left
         ·
          intro w'
          go_simp
          with_reducible rfl
         rotate_left
         ·
          simp only [Act.put, List.setIfInBounds_toArray, List.set_cons_zero, List.set_cons_succ, i64_w, i32_w]
          rfl
         refine pure_ (i := 6) (N := some 62) (v := ?_) (a' := ?_) #[true, false, true, false, true, false, true, false, false, false, false, false, false, false, false, false, false, false, false, false] rfl rfl (any_of HT_.out (by kernel_rfl)) (fun _ _ _ h => h) (Or.inl ⟨by rfl, ?_⟩) ?_ ?_
         rotate_left
         ·
          intro w'
          go_simp
          with_reducible rfl
         rotate_left
         ·
          simp only [Act.put, List.setIfInBounds_toArray, List.set_cons_zero, List.set_cons_succ, i64_w, i32_w]
          rfl
         refine pure_ (i := 9) (N := some 65) (v := ?_) (a' := ?_) #[true, false, true, false, true, false, true, false, false, true, false, false, false, false, false, false, false, false, false, false] rfl rfl (any_of HT_.out (by kernel_rfl)) (fun _ _ _ h => h) (Or.inl ⟨by rfl, ?_⟩) ?_ ?_
         rotate_left
         ·
          intro w'
          go_simp
          with_reducible rfl
         rotate_left
         ·
          simp only [Act.put, List.setIfInBounds_toArray, List.set_cons_zero, List.set_cons_succ, i64_w, i32_w]
          rfl
         refine pure_ (i := 11) (N := some 67) (v := ?_) (a' := ?_) #[true, false, true, false, true, false, true, false, false, true, false, true, false, false, false, false, false, false, false, false] rfl rfl (any_of HT_.out (by kernel_rfl)) (fun _ _ _ h => h) (Or.inl ⟨by rfl, ?_⟩) ?_ ?_
         rotate_left
         ·
          intro w'
          go_simp
          with_reducible rfl
         rotate_left
         ·
          simp only [Act.put, List.setIfInBounds_toArray, List.set_cons_zero, List.set_cons_succ, i64_w, i32_w]
          rfl
         refine pure_ (i := 13) (N := some 69) (v := ?_) (a' := ?_) #[true, false, true, false, true, false, true, false, false, true, false, true, false, true, false, false, false, false, false, false] rfl rfl (any_of HT_.out (by kernel_rfl)) (fun _ _ _ h => h) (Or.inl ⟨by rfl, ?_⟩) ?_ ?_
         rotate_left
         ·
          intro w'
          go_simp
          with_reducible rfl
         rotate_left
         ·
          simp only [Act.put, List.setIfInBounds_toArray, List.set_cons_zero, List.set_cons_succ, i64_w, i32_w]
          rfl
         refine pure_ (i := 15) (N := some 71) (v := ?_) (a' := ?_) #[true, false, true, false, true, false, true, false, false, true, false, true, false, true, false, true, false, false, false, false] rfl rfl (any_of HT_.out (by kernel_rfl)) (fun _ _ _ h => h) (Or.inl ⟨by rfl, ?_⟩) ?_ ?_
         rotate_left
         ·
          intro w'
          go_simp
          with_reducible rfl
         rotate_left
         ·
          simp only [Act.put, List.setIfInBounds_toArray, List.set_cons_zero, List.set_cons_succ, i64_w, i32_w]
          rfl
         refine take_ (i := 1) (N := some 57) (v := ?_) (a' := ?_) #[true, true, true, false, true, false, true, false, false, true, false, true, false, true, false, true, false, false, false, false] rfl rfl (take_ofW HT_.out HW_.out (by kernel_rfl)) (fun _ _ _ h => h) (Or.inl ⟨by rfl, ?_⟩) hHeld ?_ ?_
         rotate_left
         ·
          rintro w' ⟨s0, s1, s2, s3⟩
          go_simp
          with_reducible rfl
         rotate_left
         ·
          simp only [Act.put, List.setIfInBounds_toArray, List.set_cons_zero, List.set_cons_succ, i64_w, i32_w]
          rfl
         refine take_ (i := 3) (N := some 59) (v := ?_) (a' := ?_) #[true, true, true, true, true, false, true, false, false, true, false, true, false, true, false, true, false, false, false, false] rfl rfl (take_ofW HT_.out HW_.out (by kernel_rfl)) (fun _ _ _ h => h) (Or.inl ⟨by rfl, ?_⟩) hHeld ?_ ?_
         rotate_left
         ·
          rintro w' ⟨s0, s1, s2, s3⟩
          go_simp
          with_reducible rfl
         rotate_left
         ·
          simp only [Act.put, List.setIfInBounds_toArray, List.set_cons_zero, List.set_cons_succ, i64_w, i32_w]
          rfl
         refine take_ (i := 5) (N := some 61) (v := ?_) (a' := ?_) #[true, true, true, true, true, true, true, false, false, true, false, true, false, true, false, true, false, false, false, false] rfl rfl (take_ofW HT_.out HW_.out (by kernel_rfl)) (fun _ _ _ h => h) (Or.inl ⟨by rfl, ?_⟩) hHeld ?_ ?_
         rotate_left
         ·
          rintro w' ⟨s0, s1, s2, s3⟩
          go_simp
          with_reducible rfl
         rotate_left
         ·
          simp only [Act.put, List.setIfInBounds_toArray, List.set_cons_zero, List.set_cons_succ, i64_w, i32_w]
          rfl
         refine take_ (i := 7) (N := some 63) (v := ?_) (a' := ?_) #[true, true, true, true, true, true, true, true, false, true, false, true, false, true, false, true, false, false, false, false] rfl rfl (take_ofW HT_.out HW_.out (by kernel_rfl)) (fun _ _ _ h => h) (Or.inl ⟨by rfl, ?_⟩) hHeld ?_ ?_
         rotate_left
         ·
          rintro w' ⟨s0, s1, s2, s3⟩
          go_simp
          with_reducible rfl
         rotate_left
         ·
          simp only [Act.put, List.setIfInBounds_toArray, List.set_cons_zero, List.set_cons_succ, i64_w, i32_w]
          rfl
         refine take_ (i := 10) (N := some 66) (v := ?_) (a' := ?_) #[true, true, true, true, true, true, true, true, false, true, true, true, false, true, false, true, false, false, false, false] rfl rfl (take_ofW HT_.out HW_.out (by kernel_rfl)) (fun _ _ _ h => h) (Or.inl ⟨by rfl, ?_⟩) hHeld ?_ ?_
         rotate_left
         ·
          rintro w' ⟨s0, s1, s2, s3⟩
          go_simp
          with_reducible rfl
         rotate_left
         ·
          simp only [Act.put, List.setIfInBounds_toArray, List.set_cons_zero, List.set_cons_succ, i64_w, i32_w]
          rfl
         refine take_ (i := 12) (N := some 68) (v := ?_) (a' := ?_) #[true, true, true, true, true, true, true, true, false, true, true, true, true, true, false, true, false, false, false, false] rfl rfl (take_ofW HT_.out HW_.out (by kernel_rfl)) (fun _ _ _ h => h) (Or.inl ⟨by rfl, ?_⟩) hHeld ?_ ?_
         rotate_left
         ·
          rintro w' ⟨s0, s1, s2, s3⟩
          go_simp
          with_reducible rfl
         rotate_left
         ·
          simp only [Act.put, List.setIfInBounds_toArray, List.set_cons_zero, List.set_cons_succ, i64_w, i32_w]
          rfl
         refine take_ (i := 14) (N := some 70) (v := ?_) (a' := ?_) #[true, true, true, true, true, true, true, true, false, true, true, true, true, true, true, true, false, false, false, false] rfl rfl (take_ofW HT_.out HW_.out (by kernel_rfl)) (fun _ _ _ h => h) (Or.inl ⟨by rfl, ?_⟩) hHeld ?_ ?_
         rotate_left
         ·
          rintro w' ⟨s0, s1, s2, s3⟩
          go_simp
          with_reducible rfl
         rotate_left
         ·
          simp only [Act.put, List.setIfInBounds_toArray, List.set_cons_zero, List.set_cons_succ, i64_w, i32_w]
          rfl
         refine take_ (i := 16) (N := some 72) (v := ?_) (a' := ?_) #[true, true, true, true, true, true, true, true, false, true, true, true, true, true, true, true, true, false, false, false] rfl rfl (take_ofW HT_.out HW_.out (by kernel_rfl)) (fun _ _ _ h => h) (Or.inl ⟨by rfl, ?_⟩) hHeld ?_ ?_
         rotate_left
         ·
          rintro w' ⟨s0, s1, s2, s3⟩
          go_simp
          with_reducible rfl
         rotate_left
         ·
          simp only [Act.put, List.setIfInBounds_toArray, List.set_cons_zero, List.set_cons_succ, i64_w, i32_w]
          rfl
         refine one_ (i := 8) (N := some 64) #[true, true, true, true, true, true, true, true, true, true, true, true, true, true, true, true, true, false, false, false] rfl rfl (one_of HT_.out (by kernel_rfl)) (by decide) (fun K hK => ?_)
         refine goes_ Try.func77 (by kernel_rfl) rfl #[.int .i64 a0_0, .int .i64 a0_1, .string a0_2, .slice A0_3 l0_3.length c0_3] (by rfl) rfl rfl (by (try simp only [List.map_toArray, List.map_cons, List.map_nil]); first | done | rfl | (simp only [List.length_drop, List.length_take]; rfl)) ?_
         with_reducible refine (merkle_Climb.calls kj3 a0_0 a0_1 a0_2 _ _ l0_3 t695 _ ?side1 ?side2 A19.out).mono ?_
         (case side1 => repeat (first | exact (Kd.C_below HR0_3.out HB.out) | (with_reducible refine Kd.C_alloc ?_ _) | (with_reducible refine Kd.C_drewN ?_ _) | (with_reducible refine Kd.C_drew ?_)))
         (case side2 => exact HC0_3.out)
         rintro e w38 ⟨v696, rfl, ho0, hb⟩
         refine ⟨_, rfl, ?_⟩
         have n0_ := Aside0.mk (Kd.R_lower ho0 (below_size (by repeat (first | (with_reducible first | exact HB.out | apply below_alloc | apply pw_below_drewN | apply below_drew1 | refine below_set ?_ GE688.out) | exact HB.out))))
         have n1_ := Aside0.mk (blk_below (g := gb688) (o := .cells #[.int .i64 a0_0, .int .i64 a0_1, .string a0_2, .slice A0_3 l0_3.length c0_3] 101 (0, 0)) (by (with_reducible repeat (first | refine blk_drewN ?_ _ | refine blk_drew ?_ | refine blk_alloc ?_ _)); exact BK688.out) hb)
         have n2_ := Aside0.mk (below_step (by repeat (first | (with_reducible first | exact HB.out | apply below_alloc | apply pw_below_drewN | apply below_drew1 | refine below_set ?_ GE688.out) | exact HB.out)) hb)
         clear BK688
         clear HB
         have HO697 := n0_
         have BK688 := n1_
         have HB := n2_
         clear n0_ n1_ n2_
         (try clear hb)
         (try clear hb2)
         (try clear hk)
         (try clear hi)
         (try clear ho0)
         refine hK.out _ _ ⟨(blk_cell BK688.out 0).trans rfl, (blk_cell BK688.out 1).trans rfl, (blk_cell BK688.out 2).trans rfl, (blk_cell BK688.out 3).trans rfl⟩ (fun hHeld => ?_)
         clear hK K
         refine norm_ (a' := ?_) ?_ ?_
         rotate_left
         ·
          show Act.put _ (some 64) _ = _
          simp only [Act.put, List.setIfInBounds_toArray, List.set_cons_zero, List.set_cons_succ, i64_w, i32_w]
          rfl
         refine one_ (i := 17) (N := some 73) #[true, true, true, true, true, true, true, true, true, true, true, true, true, true, true, true, true, true, false, false] rfl rfl (one_of HT_.out (by kernel_rfl)) (by decide) (fun K hK => ?_)
         refine goes_ Try.func78 (by kernel_rfl) rfl #[.int .i64 a0_0, .int .i64 a0_1, .string a0_2, .slice A0_3 l0_3.length c0_3] (by rfl) rfl rfl (by (try simp only [List.map_toArray, List.map_cons, List.map_nil]); first | done | rfl | (simp only [List.length_drop, List.length_take]; rfl)) ?_
         with_reducible refine (mosaicref03_Climb.calls kj3 a0_0 a0_1 a0_2 _ _ l0_3 t698 _ ?side1 ?side2 A20.out).mono ?_
         (case side1 => repeat (first | exact (Kd.C_below HR0_3.out HB.out) | (with_reducible refine Kd.C_alloc ?_ _) | (with_reducible refine Kd.C_drewN ?_ _) | (with_reducible refine Kd.C_drew ?_)))
         (case side2 => exact HC0_3.out)
         rintro e w39 ⟨v699, rfl, ho0, hb⟩
         refine ⟨_, rfl, ?_⟩
         have n0_ := Aside0.mk (Kd.R_elder' (by (with_reducible repeat (first | apply Kd.R_alloc | apply Kd.R_drewN | apply Kd.R_drew)); exact HO697.out) (Kd.R_base ho0) hb)
         have n1_ := Aside0.mk (Kd.R_lower (Kd.R_new' ho0 (Kd.R_lt (by (with_reducible repeat (first | apply Kd.R_alloc | apply Kd.R_drewN | apply Kd.R_drew)); exact HO697.out))) (below_size (by repeat (first | (with_reducible first | exact HB.out | apply below_alloc | apply pw_below_drewN | apply below_drew1 | refine below_set ?_ GE688.out) | exact HB.out))))
         have n2_ := Aside0.mk (blk_below (g := gb688) (o := .cells #[.int .i64 a0_0, .int .i64 a0_1, .string a0_2, .slice A0_3 l0_3.length c0_3] 101 (0, 0)) (by (with_reducible repeat (first | refine blk_drewN ?_ _ | refine blk_drew ?_ | refine blk_alloc ?_ _)); exact BK688.out) hb)
         have n3_ := Aside0.mk (below_step (by repeat (first | (with_reducible first | exact HB.out | apply below_alloc | apply pw_below_drewN | apply below_drew1 | refine below_set ?_ GE688.out) | exact HB.out)) hb)
         clear HO697
         clear BK688
         clear HB
         have HO697 := n0_
         have HO700 := n1_
         have BK688 := n2_
         have HB := n3_
         clear n0_ n1_ n2_ n3_
         (try clear hb)
         (try clear hb2)
         (try clear hk)
         (try clear hi)
         (try clear ho0)
         obtain ⟨Ao40, co40, eo40⟩ := Kd.R_slice HO697.out
         (first | subst eo40 | (injection eo40 with f1_ f2_ f3_; have f4_ := f1_.symm; have f5_ := f3_.symm; clear f1_ f2_ f3_; subst f4_; subst f5_))
         obtain ⟨Ao41, co41, eo41⟩ := Kd.R_slice HO700.out
         (first | subst eo41 | (injection eo41 with f1_ f2_ f3_; have f4_ := f1_.symm; have f5_ := f3_.symm; clear f1_ f2_ f3_; subst f4_; subst f5_))
         refine hK.out _ _ ⟨(blk_cell BK688.out 0).trans rfl, (blk_cell BK688.out 1).trans rfl, (blk_cell BK688.out 2).trans rfl, (blk_cell BK688.out 3).trans rfl⟩ (fun hHeld => ?_)
         clear hK K
         refine norm_ (a' := ?_) ?_ ?_
         rotate_left
         ·
          show Act.put _ (some 73) _ = _
          simp only [Act.put, List.setIfInBounds_toArray, List.set_cons_zero, List.set_cons_succ, i64_w, i32_w]
          rfl
         refine one_ (i := 18) (N := some 74) #[true, true, true, true, true, true, true, true, true, true, true, true, true, true, true, true, true, true, true, false] rfl rfl (one_of HT_.out (by kernel_rfl)) (by decide) (fun K hK => ?_)
         refine goes_ Try.func54 (by kernel_rfl) rfl #[.slice Ao40 t695.length co40, .slice Ao41 t698.length co41] (by rfl) rfl rfl (by (try simp only [List.map_toArray, List.map_cons, List.map_nil]); first | done | rfl | (simp only [List.length_drop, List.length_take]; rfl)) ?_
         with_reducible refine (mosaicref03_Same.calls kj3 _ _ t695 _ _ t698 true _ ?side1 ?side2 ?side3 ?side4 A21.out).mono ?_
         (case side1 => repeat (first | exact (Kd.R_reads' HO697.out).2.2 | (with_reducible refine Kd.C_alloc ?_ _) | (with_reducible refine Kd.C_drewN ?_ _) | (with_reducible refine Kd.C_drew ?_)))
         (case side2 => exact (Kd.R_reads' HO697.out).2.1)
         (case side3 => repeat (first | exact (Kd.R_reads' HO700.out).2.2 | (with_reducible refine Kd.C_alloc ?_ _) | (with_reducible refine Kd.C_drewN ?_ _) | (with_reducible refine Kd.C_drew ?_)))
         (case side4 => exact (Kd.R_reads' HO700.out).2.1)
         rintro e w' ⟨rfl, ⟨nd, rfl⟩⟩
         refine ⟨_, rfl, ?_⟩
         refine hK.out _ _ ⟨(blk_cell BK688.out 0).trans rfl, (blk_cell BK688.out 1).trans rfl, (blk_cell BK688.out 2).trans rfl, (blk_cell BK688.out 3).trans rfl⟩ (fun hHeld => ?_)
         clear hK K
         refine norm_ (a' := ?_) ?_ ?_
         rotate_left
         ·
          show Act.put _ (some 74) _ = _
          simp only [Act.put, List.setIfInBounds_toArray, List.set_cons_zero, List.set_cons_succ, i64_w, i32_w]
          rfl
         refine pure_ (i := 19) (N := some 75) (v := ?_) (a' := ?_) #[true, true, true, true, true, true, true, true, true, true, true, true, true, true, true, true, true, true, true, true] rfl rfl (any_of HT_.out (by kernel_rfl)) (fun _ _ _ h => h) (Or.inl ⟨by rfl, ?_⟩) ?_ ?_
         rotate_left
         ·
          intro w'
          go_simp
          with_reducible rfl
         rotate_left
         ·
          simp only [Act.put, List.setIfInBounds_toArray, List.set_cons_zero, List.set_cons_succ, i64_w, i32_w]
          rfl
         refine done_ (done_of HT_.out (by kernel_rfl)) ?_
         try go_wp2
         (try (rw [drewN_self w39]; generalize hq_ : World.drewN w39 _ = w39; have n0_ : Aside0 (Kd.R Kd.string 9 w39 w.heap.size (fun k_ => some k_ ≠ (.slice Ao41 t698.length co41 : Value).ownBlock) (.slice Ao40 t695.length co40) t695) := ⟨by rw [← hq_]; exact (by (with_reducible repeat (first | apply Kd.R_alloc | apply Kd.R_drewN | apply Kd.R_drew)); exact Kd.R_mono HO697.out (fun _ hk => hk.2))⟩; have n1_ : Aside0 (Kd.R Kd.string 9 w39 w.heap.size (fun k_ => some k_ ≠ (.slice Ao40 t695.length co40 : Value).ownBlock) (.slice Ao41 t698.length co41) t698) := ⟨by rw [← hq_]; exact (by (with_reducible repeat (first | apply Kd.R_alloc | apply Kd.R_drewN | apply Kd.R_drew)); exact Kd.R_mono HO700.out (fun _ hk => hk.2))⟩; have n2_ : Aside0 (w39.heap[gb688]? = some (.cells #[.int .i64 a0_0, .int .i64 a0_1, .string a0_2, .slice A0_3 l0_3.length c0_3] 101 (0, 0))) := ⟨by rw [← hq_]; exact (by (with_reducible repeat (first | refine blk_drewN ?_ _ | refine blk_drew ?_ | refine blk_alloc ?_ _)); exact BK688.out)⟩; have n3_ : Aside0 (Below w.heap.size w w39) := ⟨by rw [← hq_]; exact (by repeat (first | (with_reducible first | exact HB.out | apply below_alloc | apply pw_below_drewN | apply below_drew1 | refine below_set ?_ GE688.out) | exact HB.out))⟩; clear HO697 HO700 BK688 HB hq_; have HO697 := n0_; have HO700 := n1_; have BK688 := n2_; have HB := n3_; clear n0_ n1_ n2_ n3_))
         have n0_ := Aside0.mk (Kd.R_drew HO697.out)
         have n1_ := Aside0.mk (Kd.R_drew HO700.out)
         have n2_ := Aside0.mk (blk_drew BK688.out)
         have n3_ := Aside0.mk (below_drew1 HB.out)
         clear HO697
         clear HO700
         clear BK688
         clear HB
         have HO697 := n0_
         have HO700 := n1_
         have BK688 := n2_
         have HB := n3_
         clear n0_ n1_ n2_ n3_
         refine start_ (n := 54) (S := fun w' => w'.cell? ⟨gb688, 0, none⟩ = some (.int .i64 a0_0) ∧ w'.cell? ⟨gb688, 1, none⟩ = some (.int .i64 a0_1) ∧ w'.cell? ⟨gb688, 2, none⟩ = some (.string a0_2) ∧ w'.cell? ⟨gb688, 3, none⟩ = some (.slice A0_3 l0_3.length c0_3)) (ds := []) #[false, false, false, false, false, false, false, false, false, false, false, false, false, false, false, false, false, false, false, false, false, false, false, false, false, false, false, false, false, false, false, false, false, false, false, false, false, false, false, false, false, false, false, false, false, false, false, false, false, false, false, false, false, false] (by kernel_rfl) rfl rfl ⟨(blk_cell BK688.out 0).trans rfl, (blk_cell BK688.out 1).trans rfl, (blk_cell BK688.out 2).trans rfl, (blk_cell BK688.out 3).trans rfl⟩ (fun hHeld => ?_); refine with_tabW mosaiclaw03_MerkleFolds.tab7 mosaiclaw03_MerkleFolds.bits7 (fun HT_ HW_ => ?_)
         generalize w39.drew = w42 at HO697 HO700 BK688 HB hHeld ⊢
         refine one_ (i := 0) (N := some 76) #[true, false, false, false, false, false, false, false, false, false, false, false, false, false, false, false, false, false, false, false, false, false, false, false, false, false, false, false, false, false, false, false, false, false, false, false, false, false, false, false, false, false, false, false, false, false, false, false, false, false, false, false, false, false] rfl rfl (one_of HT_.out (by kernel_rfl)) (by decide) (fun K hK => ?_)
         refine goes_ Try.func45 (by kernel_rfl) rfl #[] (by rfl) rfl rfl (by (try simp only [List.map_toArray, List.map_cons, List.map_nil]); first | done | rfl | (simp only [List.length_drop, List.length_take]; rfl)) ?_
         with_reducible refine (mosaiclaw03_awake.calls kj3  true _ A23.out).mono ?_
         rintro e w43 ⟨rfl, hb⟩
         refine ⟨_, rfl, ?_⟩
         have n0_ := Aside0.mk (Kd.R_below (by (with_reducible repeat (first | apply Kd.R_alloc | apply Kd.R_drewN | apply Kd.R_drew)); exact HO697.out) hb)
         have n1_ := Aside0.mk (Kd.R_below (by (with_reducible repeat (first | apply Kd.R_alloc | apply Kd.R_drewN | apply Kd.R_drew)); exact HO700.out) hb)
         have n2_ := Aside0.mk (blk_below (g := gb688) (o := .cells #[.int .i64 a0_0, .int .i64 a0_1, .string a0_2, .slice A0_3 l0_3.length c0_3] 101 (0, 0)) (by (with_reducible repeat (first | refine blk_drewN ?_ _ | refine blk_drew ?_ | refine blk_alloc ?_ _)); exact BK688.out) hb)
         have n3_ := Aside0.mk (below_step (by repeat (first | (with_reducible first | exact HB.out | apply below_alloc | apply pw_below_drewN | apply below_drew1 | refine below_set ?_ GE688.out) | exact HB.out)) hb)
         clear HO697
         clear HO700
         clear BK688
         clear HB
         have HO697 := n0_
         have HO700 := n1_
         have BK688 := n2_
         have HB := n3_
         clear n0_ n1_ n2_ n3_
         (try clear hb)
         (try clear hb2)
         (try clear hk)
         (try clear hi)
         refine hK.out _ _ ⟨(blk_cell BK688.out 0).trans rfl, (blk_cell BK688.out 1).trans rfl, (blk_cell BK688.out 2).trans rfl, (blk_cell BK688.out 3).trans rfl⟩ (fun hHeld => ?_)
         clear hK K
         refine norm_ (a' := ?_) ?_ ?_
         rotate_left
         ·
          show Act.put _ (some 76) _ = _
          simp only [Act.put, List.setIfInBounds_toArray, List.set_cons_zero, List.set_cons_succ, i64_w, i32_w]
          rfl
         refine pure_ (i := 1) (N := some 77) (v := ?_) (a' := ?_) #[true, true, false, false, false, false, false, false, false, false, false, false, false, false, false, false, false, false, false, false, false, false, false, false, false, false, false, false, false, false, false, false, false, false, false, false, false, false, false, false, false, false, false, false, false, false, false, false, false, false, false, false, false, false] rfl rfl (any_of HT_.out (by kernel_rfl)) (fun _ _ _ h => h) (Or.inl ⟨by rfl, ?_⟩) ?_ ?_
         rotate_left
         ·
          intro w'
          go_simp
          with_reducible rfl
         rotate_left
         ·
          simp only [Act.put, List.setIfInBounds_toArray, List.set_cons_zero, List.set_cons_succ, i64_w, i32_w]
          rfl
         refine pure_ (i := 2) (N := some 78) (v := ?_) (a' := ?_) #[true, true, true, false, false, false, false, false, false, false, false, false, false, false, false, false, false, false, false, false, false, false, false, false, false, false, false, false, false, false, false, false, false, false, false, false, false, false, false, false, false, false, false, false, false, false, false, false, false, false, false, false, false, false] rfl rfl (any_of HT_.out (by kernel_rfl)) (fun _ _ _ h => h) (Or.inl ⟨by rfl, ?_⟩) ?_ ?_
         rotate_left
         ·
          intro w'
          go_simp
          with_reducible rfl
         rotate_left
         ·
          simp only [Act.put, List.setIfInBounds_toArray, List.set_cons_zero, List.set_cons_succ, i64_w, i32_w]
          rfl
         refine pure_ (i := 3) (N := some 79) (v := ?_) (a' := ?_) #[true, true, true, true, false, false, false, false, false, false, false, false, false, false, false, false, false, false, false, false, false, false, false, false, false, false, false, false, false, false, false, false, false, false, false, false, false, false, false, false, false, false, false, false, false, false, false, false, false, false, false, false, false, false] rfl rfl (any_of HT_.out (by kernel_rfl)) (fun _ _ _ h => h) (Or.inl ⟨by rfl, ?_⟩) ?_ ?_
         rotate_left
         ·
          intro w'
          go_simp
          with_reducible rfl
         rotate_left
         ·
          simp only [Act.put, List.setIfInBounds_toArray, List.set_cons_zero, List.set_cons_succ, i64_w, i32_w]
          rfl
         refine pure_ (i := 4) (N := some 80) (v := ?_) (a' := ?_) #[true, true, true, true, true, false, false, false, false, false, false, false, false, false, false, false, false, false, false, false, false, false, false, false, false, false, false, false, false, false, false, false, false, false, false, false, false, false, false, false, false, false, false, false, false, false, false, false, false, false, false, false, false, false] rfl rfl (any_of HT_.out (by kernel_rfl)) (fun _ _ _ h => h) (Or.inl ⟨by rfl, ?_⟩) ?_ ?_
         rotate_left
         ·
          intro w'
          go_simp
          with_reducible rfl
         rotate_left
         ·
          simp only [Act.put, List.setIfInBounds_toArray, List.set_cons_zero, List.set_cons_succ, i64_w, i32_w]
          rfl
         refine pure_ (i := 5) (N := some 81) (v := ?_) (a' := ?_) #[true, true, true, true, true, true, false, false, false, false, false, false, false, false, false, false, false, false, false, false, false, false, false, false, false, false, false, false, false, false, false, false, false, false, false, false, false, false, false, false, false, false, false, false, false, false, false, false, false, false, false, false, false, false] rfl rfl (any_of HT_.out (by kernel_rfl)) (fun _ _ _ h => h) (Or.inl ⟨by rfl, ?_⟩) ?_ ?_
         rotate_left
         ·
          intro w'
          go_simp
          with_reducible rfl
         rotate_left
         ·
          simp only [Act.put, List.setIfInBounds_toArray, List.set_cons_zero, List.set_cons_succ, i64_w, i32_w]
          rfl
         refine pure_ (i := 6) (N := some 82) (v := ?_) (a' := ?_) #[true, true, true, true, true, true, true, false, false, false, false, false, false, false, false, false, false, false, false, false, false, false, false, false, false, false, false, false, false, false, false, false, false, false, false, false, false, false, false, false, false, false, false, false, false, false, false, false, false, false, false, false, false, false] rfl rfl (any_of HT_.out (by kernel_rfl)) (fun _ _ _ h => h) (Or.inl ⟨by rfl, ?_⟩) ?_ ?_
         rotate_left
         ·
          intro w'
          go_simp
          with_reducible rfl
         rotate_left
         ·
          simp only [Act.put, List.setIfInBounds_toArray, List.set_cons_zero, List.set_cons_succ, i64_w, i32_w]
          rfl
         refine pure_ (i := 7) (N := some 83) (v := ?_) (a' := ?_) #[true, true, true, true, true, true, true, true, false, false, false, false, false, false, false, false, false, false, false, false, false, false, false, false, false, false, false, false, false, false, false, false, false, false, false, false, false, false, false, false, false, false, false, false, false, false, false, false, false, false, false, false, false, false] rfl rfl (any_of HT_.out (by kernel_rfl)) (fun _ _ _ h => h) (Or.inl ⟨by rfl, ?_⟩) ?_ ?_
         rotate_left
         ·
          intro w'
          go_simp
          with_reducible rfl
         rotate_left
         ·
          simp only [Act.put, List.setIfInBounds_toArray, List.set_cons_zero, List.set_cons_succ, i64_w, i32_w]
          rfl
         refine pure_ (i := 8) (N := some 84) (v := ?_) (a' := ?_) #[true, true, true, true, true, true, true, true, true, false, false, false, false, false, false, false, false, false, false, false, false, false, false, false, false, false, false, false, false, false, false, false, false, false, false, false, false, false, false, false, false, false, false, false, false, false, false, false, false, false, false, false, false, false] rfl rfl (any_of HT_.out (by kernel_rfl)) (fun _ _ _ h => h) (Or.inl ⟨by rfl, ?_⟩) ?_ ?_
         rotate_left
         ·
          intro w'
          go_simp
          with_reducible rfl
         rotate_left
         ·
          simp only [Act.put, List.setIfInBounds_toArray, List.set_cons_zero, List.set_cons_succ, i64_w, i32_w]
          rfl
         refine pure_ (i := 9) (N := some 85) (v := ?_) (a' := ?_) #[true, true, true, true, true, true, true, true, true, true, false, false, false, false, false, false, false, false, false, false, false, false, false, false, false, false, false, false, false, false, false, false, false, false, false, false, false, false, false, false, false, false, false, false, false, false, false, false, false, false, false, false, false, false] rfl rfl (any_of HT_.out (by kernel_rfl)) (fun _ _ _ h => h) (Or.inl ⟨by rfl, ?_⟩) ?_ ?_
         rotate_left
         ·
          intro w'
          go_simp
          with_reducible rfl
         rotate_left
         ·
          simp only [Act.put, List.setIfInBounds_toArray, List.set_cons_zero, List.set_cons_succ, i64_w, i32_w]
          rfl
         refine pure_ (i := 10) (N := some 86) (v := ?_) (a' := ?_) #[true, true, true, true, true, true, true, true, true, true, true, false, false, false, false, false, false, false, false, false, false, false, false, false, false, false, false, false, false, false, false, false, false, false, false, false, false, false, false, false, false, false, false, false, false, false, false, false, false, false, false, false, false, false] rfl rfl (any_of HT_.out (by kernel_rfl)) (fun _ _ _ h => h) (Or.inl ⟨by rfl, ?_⟩) ?_ ?_
         rotate_left
         ·
          intro w'
          go_simp
          with_reducible rfl
         rotate_left
         ·
          simp only [Act.put, List.setIfInBounds_toArray, List.set_cons_zero, List.set_cons_succ, i64_w, i32_w]
          rfl
         refine pure_ (i := 11) (N := some 87) (v := ?_) (a' := ?_) #[true, true, true, true, true, true, true, true, true, true, true, true, false, false, false, false, false, false, false, false, false, false, false, false, false, false, false, false, false, false, false, false, false, false, false, false, false, false, false, false, false, false, false, false, false, false, false, false, false, false, false, false, false, false] rfl rfl (any_of HT_.out (by kernel_rfl)) (fun _ _ _ h => h) (Or.inl ⟨by rfl, ?_⟩) ?_ ?_
         rotate_left
         ·
          intro w'
          go_simp
          with_reducible rfl
         rotate_left
         ·
          simp only [Act.put, List.setIfInBounds_toArray, List.set_cons_zero, List.set_cons_succ, i64_w, i32_w]
          rfl
         refine pure_ (i := 12) (N := some 88) (v := ?_) (a' := ?_) #[true, true, true, true, true, true, true, true, true, true, true, true, true, false, false, false, false, false, false, false, false, false, false, false, false, false, false, false, false, false, false, false, false, false, false, false, false, false, false, false, false, false, false, false, false, false, false, false, false, false, false, false, false, false] rfl rfl (any_of HT_.out (by kernel_rfl)) (fun _ _ _ h => h) (Or.inl ⟨by rfl, ?_⟩) ?_ ?_
         rotate_left
         ·
          intro w'
          go_simp
          with_reducible rfl
         rotate_left
         ·
          simp only [Act.put, List.setIfInBounds_toArray, List.set_cons_zero, List.set_cons_succ, i64_w, i32_w]
          rfl
         refine pure_ (i := 13) (N := some 89) (v := ?_) (a' := ?_) #[true, true, true, true, true, true, true, true, true, true, true, true, true, true, false, false, false, false, false, false, false, false, false, false, false, false, false, false, false, false, false, false, false, false, false, false, false, false, false, false, false, false, false, false, false, false, false, false, false, false, false, false, false, false] rfl rfl (any_of HT_.out (by kernel_rfl)) (fun _ _ _ h => h) (Or.inl ⟨by rfl, ?_⟩) ?_ ?_
         rotate_left
         ·
          intro w'
          go_simp
          with_reducible rfl
         rotate_left
         ·
          simp only [Act.put, List.setIfInBounds_toArray, List.set_cons_zero, List.set_cons_succ, i64_w, i32_w]
          rfl
         refine pure_ (i := 15) (N := some 91) (v := ?_) (a' := ?_) #[true, true, true, true, true, true, true, true, true, true, true, true, true, true, false, true, false, false, false, false, false, false, false, false, false, false, false, false, false, false, false, false, false, false, false, false, false, false, false, false, false, false, false, false, false, false, false, false, false, false, false, false, false, false] rfl rfl (any_of HT_.out (by kernel_rfl)) (fun _ _ _ h => h) (Or.inl ⟨by rfl, ?_⟩) ?_ ?_
         rotate_left
         ·
          intro w'
          go_simp
          with_reducible rfl
         rotate_left
         ·
          simp only [Act.put, List.setIfInBounds_toArray, List.set_cons_zero, List.set_cons_succ, i64_w, i32_w]
          rfl
         refine pure_ (i := 17) (N := some 93) (v := ?_) (a' := ?_) #[true, true, true, true, true, true, true, true, true, true, true, true, true, true, false, true, false, true, false, false, false, false, false, false, false, false, false, false, false, false, false, false, false, false, false, false, false, false, false, false, false, false, false, false, false, false, false, false, false, false, false, false, false, false] rfl rfl (any_of HT_.out (by kernel_rfl)) (fun _ _ _ h => h) (Or.inl ⟨by rfl, ?_⟩) ?_ ?_
         rotate_left
         ·
          intro w'
          go_simp
          with_reducible rfl
         rotate_left
         ·
          simp only [Act.put, List.setIfInBounds_toArray, List.set_cons_zero, List.set_cons_succ, i64_w, i32_w]
          rfl
         refine pure_ (i := 19) (N := some 95) (v := ?_) (a' := ?_) #[true, true, true, true, true, true, true, true, true, true, true, true, true, true, false, true, false, true, false, true, false, false, false, false, false, false, false, false, false, false, false, false, false, false, false, false, false, false, false, false, false, false, false, false, false, false, false, false, false, false, false, false, false, false] rfl rfl (any_of HT_.out (by kernel_rfl)) (fun _ _ _ h => h) (Or.inl ⟨by rfl, ?_⟩) ?_ ?_
         rotate_left
         ·
          intro w'
          go_simp
          with_reducible rfl
         rotate_left
         ·
          simp only [Act.put, List.setIfInBounds_toArray, List.set_cons_zero, List.set_cons_succ, i64_w, i32_w]
          rfl
         refine pure_ (i := 22) (N := some 98) (v := ?_) (a' := ?_) #[true, true, true, true, true, true, true, true, true, true, true, true, true, true, false, true, false, true, false, true, false, false, true, false, false, false, false, false, false, false, false, false, false, false, false, false, false, false, false, false, false, false, false, false, false, false, false, false, false, false, false, false, false, false] rfl rfl (any_of HT_.out (by kernel_rfl)) (fun _ _ _ h => h) (Or.inl ⟨by rfl, ?_⟩) ?_ ?_
         rotate_left
         ·
          intro w'
          go_simp
          with_reducible rfl
         rotate_left
         ·
          simp only [Act.put, List.setIfInBounds_toArray, List.set_cons_zero, List.set_cons_succ, i64_w, i32_w]
          rfl
         refine pure_ (i := 23) (N := some 99) (v := ?_) (a' := ?_) #[true, true, true, true, true, true, true, true, true, true, true, true, true, true, false, true, false, true, false, true, false, false, true, true, false, false, false, false, false, false, false, false, false, false, false, false, false, false, false, false, false, false, false, false, false, false, false, false, false, false, false, false, false, false] rfl rfl (any_of HT_.out (by kernel_rfl)) (fun _ _ _ h => h) (Or.inl ⟨by rfl, ?_⟩) ?_ ?_
         rotate_left
         ·
          intro w'
          go_simp
          with_reducible rfl
         rotate_left
         ·
          simp only [Act.put, List.setIfInBounds_toArray, List.set_cons_zero, List.set_cons_succ, i64_w, i32_w]
          rfl
         refine pure_ (i := 25) (N := some 101) (v := ?_) (a' := ?_) #[true, true, true, true, true, true, true, true, true, true, true, true, true, true, false, true, false, true, false, true, false, false, true, true, false, true, false, false, false, false, false, false, false, false, false, false, false, false, false, false, false, false, false, false, false, false, false, false, false, false, false, false, false, false] rfl rfl (any_of HT_.out (by kernel_rfl)) (fun _ _ _ h => h) (Or.inl ⟨by rfl, ?_⟩) ?_ ?_
         rotate_left
         ·
          intro w'
          go_simp
          with_reducible rfl
         rotate_left
         ·
          simp only [Act.put, List.setIfInBounds_toArray, List.set_cons_zero, List.set_cons_succ, i64_w, i32_w]
          rfl
         refine pure_ (i := 27) (N := some 103) (v := ?_) (a' := ?_) #[true, true, true, true, true, true, true, true, true, true, true, true, true, true, false, true, false, true, false, true, false, false, true, true, false, true, false, true, false, false, false, false, false, false, false, false, false, false, false, false, false, false, false, false, false, false, false, false, false, false, false, false, false, false] rfl rfl (any_of HT_.out (by kernel_rfl)) (fun _ _ _ h => h) (Or.inl ⟨by rfl, ?_⟩) ?_ ?_
         rotate_left
         ·
          intro w'
          go_simp
          with_reducible rfl
         rotate_left
         ·
          simp only [Act.put, List.setIfInBounds_toArray, List.set_cons_zero, List.set_cons_succ, i64_w, i32_w]
          rfl
         refine pure_ (i := 29) (N := some 105) (v := ?_) (a' := ?_) #[true, true, true, true, true, true, true, true, true, true, true, true, true, true, false, true, false, true, false, true, false, false, true, true, false, true, false, true, false, true, false, false, false, false, false, false, false, false, false, false, false, false, false, false, false, false, false, false, false, false, false, false, false, false] rfl rfl (any_of HT_.out (by kernel_rfl)) (fun _ _ _ h => h) (Or.inl ⟨by rfl, ?_⟩) ?_ ?_
         rotate_left
         ·
          intro w'
          go_simp
          with_reducible rfl
         rotate_left
         ·
          simp only [Act.put, List.setIfInBounds_toArray, List.set_cons_zero, List.set_cons_succ, i64_w, i32_w]
          rfl
         refine take_ (i := 14) (N := some 90) (v := ?_) (a' := ?_) #[true, true, true, true, true, true, true, true, true, true, true, true, true, true, true, true, false, true, false, true, false, false, true, true, false, true, false, true, false, true, false, false, false, false, false, false, false, false, false, false, false, false, false, false, false, false, false, false, false, false, false, false, false, false] rfl rfl (take_ofW HT_.out HW_.out (by kernel_rfl)) (fun _ _ _ h => h) (Or.inl ⟨by rfl, ?_⟩) hHeld ?_ ?_
         rotate_left
         ·
          rintro w' ⟨s0, s1, s2, s3⟩
          go_simp
          with_reducible rfl
         rotate_left
         ·
          simp only [Act.put, List.setIfInBounds_toArray, List.set_cons_zero, List.set_cons_succ, i64_w, i32_w]
          rfl
         refine take_ (i := 16) (N := some 92) (v := ?_) (a' := ?_) #[true, true, true, true, true, true, true, true, true, true, true, true, true, true, true, true, true, true, false, true, false, false, true, true, false, true, false, true, false, true, false, false, false, false, false, false, false, false, false, false, false, false, false, false, false, false, false, false, false, false, false, false, false, false] rfl rfl (take_ofW HT_.out HW_.out (by kernel_rfl)) (fun _ _ _ h => h) (Or.inl ⟨by rfl, ?_⟩) hHeld ?_ ?_
         rotate_left
         ·
          rintro w' ⟨s0, s1, s2, s3⟩
          go_simp
          with_reducible rfl
         rotate_left
         ·
          simp only [Act.put, List.setIfInBounds_toArray, List.set_cons_zero, List.set_cons_succ, i64_w, i32_w]
          rfl
         refine take_ (i := 18) (N := some 94) (v := ?_) (a' := ?_) #[true, true, true, true, true, true, true, true, true, true, true, true, true, true, true, true, true, true, true, true, false, false, true, true, false, true, false, true, false, true, false, false, false, false, false, false, false, false, false, false, false, false, false, false, false, false, false, false, false, false, false, false, false, false] rfl rfl (take_ofW HT_.out HW_.out (by kernel_rfl)) (fun _ _ _ h => h) (Or.inl ⟨by rfl, ?_⟩) hHeld ?_ ?_
         rotate_left
         ·
          rintro w' ⟨s0, s1, s2, s3⟩
          go_simp
          with_reducible rfl
         rotate_left
         ·
          simp only [Act.put, List.setIfInBounds_toArray, List.set_cons_zero, List.set_cons_succ, i64_w, i32_w]
          rfl
         refine take_ (i := 20) (N := some 96) (v := ?_) (a' := ?_) #[true, true, true, true, true, true, true, true, true, true, true, true, true, true, true, true, true, true, true, true, true, false, true, true, false, true, false, true, false, true, false, false, false, false, false, false, false, false, false, false, false, false, false, false, false, false, false, false, false, false, false, false, false, false] rfl rfl (take_ofW HT_.out HW_.out (by kernel_rfl)) (fun _ _ _ h => h) (Or.inl ⟨by rfl, ?_⟩) hHeld ?_ ?_
         rotate_left
         ·
          rintro w' ⟨s0, s1, s2, s3⟩
          go_simp
          with_reducible rfl
         rotate_left
         ·
          simp only [Act.put, List.setIfInBounds_toArray, List.set_cons_zero, List.set_cons_succ, i64_w, i32_w]
          rfl
         refine take_ (i := 24) (N := some 100) (v := ?_) (a' := ?_) #[true, true, true, true, true, true, true, true, true, true, true, true, true, true, true, true, true, true, true, true, true, false, true, true, true, true, false, true, false, true, false, false, false, false, false, false, false, false, false, false, false, false, false, false, false, false, false, false, false, false, false, false, false, false] rfl rfl (take_ofW HT_.out HW_.out (by kernel_rfl)) (fun _ _ _ h => h) (Or.inl ⟨by rfl, ?_⟩) hHeld ?_ ?_
         rotate_left
         ·
          rintro w' ⟨s0, s1, s2, s3⟩
          go_simp
          with_reducible rfl
         rotate_left
         ·
          simp only [Act.put, List.setIfInBounds_toArray, List.set_cons_zero, List.set_cons_succ, i64_w, i32_w]
          rfl
         refine take_ (i := 26) (N := some 102) (v := ?_) (a' := ?_) #[true, true, true, true, true, true, true, true, true, true, true, true, true, true, true, true, true, true, true, true, true, false, true, true, true, true, true, true, false, true, false, false, false, false, false, false, false, false, false, false, false, false, false, false, false, false, false, false, false, false, false, false, false, false] rfl rfl (take_ofW HT_.out HW_.out (by kernel_rfl)) (fun _ _ _ h => h) (Or.inl ⟨by rfl, ?_⟩) hHeld ?_ ?_
         rotate_left
         ·
          rintro w' ⟨s0, s1, s2, s3⟩
          go_simp
          with_reducible rfl
         rotate_left
         ·
          simp only [Act.put, List.setIfInBounds_toArray, List.set_cons_zero, List.set_cons_succ, i64_w, i32_w]
          rfl
         refine take_ (i := 28) (N := some 104) (v := ?_) (a' := ?_) #[true, true, true, true, true, true, true, true, true, true, true, true, true, true, true, true, true, true, true, true, true, false, true, true, true, true, true, true, true, true, false, false, false, false, false, false, false, false, false, false, false, false, false, false, false, false, false, false, false, false, false, false, false, false] rfl rfl (take_ofW HT_.out HW_.out (by kernel_rfl)) (fun _ _ _ h => h) (Or.inl ⟨by rfl, ?_⟩) hHeld ?_ ?_
         rotate_left
         ·
          rintro w' ⟨s0, s1, s2, s3⟩
          go_simp
          with_reducible rfl
         rotate_left
         ·
          simp only [Act.put, List.setIfInBounds_toArray, List.set_cons_zero, List.set_cons_succ, i64_w, i32_w]
          rfl
         refine take_ (i := 30) (N := some 106) (v := ?_) (a' := ?_) #[true, true, true, true, true, true, true, true, true, true, true, true, true, true, true, true, true, true, true, true, true, false, true, true, true, true, true, true, true, true, true, false, false, false, false, false, false, false, false, false, false, false, false, false, false, false, false, false, false, false, false, false, false, false] rfl rfl (take_ofW HT_.out HW_.out (by kernel_rfl)) (fun _ _ _ h => h) (Or.inl ⟨by rfl, ?_⟩) hHeld ?_ ?_
         rotate_left
         ·
          rintro w' ⟨s0, s1, s2, s3⟩
          go_simp
          with_reducible rfl
         rotate_left
         ·
          simp only [Act.put, List.setIfInBounds_toArray, List.set_cons_zero, List.set_cons_succ, i64_w, i32_w]
          rfl
         refine one_ (i := 21) (N := some 97) #[true, true, true, true, true, true, true, true, true, true, true, true, true, true, true, true, true, true, true, true, true, true, true, true, true, true, true, true, true, true, true, false, false, false, false, false, false, false, false, false, false, false, false, false, false, false, false, false, false, false, false, false, false, false] rfl rfl (one_of HT_.out (by kernel_rfl)) (by decide) (fun K hK => ?_)
         refine goes_ Try.func79 (by kernel_rfl) rfl #[.string a1, .int .i64 a0_0, .int .i64 a0_1, .string a0_2, .slice A0_3 l0_3.length c0_3] (by rfl) rfl rfl (by (try simp only [List.map_toArray, List.map_cons, List.map_nil]); first | done | rfl | (simp only [List.length_drop, List.length_take]; rfl)) ?_
         with_reducible refine (merkle_Check.calls kj3 a1 a0_0 a0_1 a0_2 _ _ l0_3 t703 _ ?side1 ?side2 A27.out).mono ?_
         (case side1 => repeat (first | exact (Kd.C_below HR0_3.out HB.out) | (with_reducible refine Kd.C_alloc ?_ _) | (with_reducible refine Kd.C_drewN ?_ _) | (with_reducible refine Kd.C_drew ?_)))
         (case side2 => exact HC0_3.out)
         rintro e w44 ⟨rfl, hb⟩
         refine ⟨_, rfl, ?_⟩
         have n0_ := Aside0.mk (Kd.R_below (by (with_reducible repeat (first | apply Kd.R_alloc | apply Kd.R_drewN | apply Kd.R_drew)); exact HO697.out) hb)
         have n1_ := Aside0.mk (Kd.R_below (by (with_reducible repeat (first | apply Kd.R_alloc | apply Kd.R_drewN | apply Kd.R_drew)); exact HO700.out) hb)
         have n2_ := Aside0.mk (blk_below (g := gb688) (o := .cells #[.int .i64 a0_0, .int .i64 a0_1, .string a0_2, .slice A0_3 l0_3.length c0_3] 101 (0, 0)) (by (with_reducible repeat (first | refine blk_drewN ?_ _ | refine blk_drew ?_ | refine blk_alloc ?_ _)); exact BK688.out) hb)
         have n3_ := Aside0.mk (below_step (by repeat (first | (with_reducible first | exact HB.out | apply below_alloc | apply pw_below_drewN | apply below_drew1 | refine below_set ?_ GE688.out) | exact HB.out)) hb)
         clear HO697
         clear HO700
         clear BK688
         clear HB
         have HO697 := n0_
         have HO700 := n1_
         have BK688 := n2_
         have HB := n3_
         clear n0_ n1_ n2_ n3_
         (try clear hb)
         (try clear hb2)
         (try clear hk)
         (try clear hi)
         refine hK.out _ _ ⟨(blk_cell BK688.out 0).trans rfl, (blk_cell BK688.out 1).trans rfl, (blk_cell BK688.out 2).trans rfl, (blk_cell BK688.out 3).trans rfl⟩ (fun hHeld => ?_)
         clear hK K
         refine norm_ (a' := ?_) ?_ ?_
         rotate_left
         ·
          show Act.put _ (some 97) _ = _
          simp only [Act.put, List.setIfInBounds_toArray, List.set_cons_zero, List.set_cons_succ, i64_w, i32_w]
          rfl
         refine one_ (i := 31) (N := some 107) #[true, true, true, true, true, true, true, true, true, true, true, true, true, true, true, true, true, true, true, true, true, true, true, true, true, true, true, true, true, true, true, true, false, false, false, false, false, false, false, false, false, false, false, false, false, false, false, false, false, false, false, false, false, false] rfl rfl (one_of HT_.out (by kernel_rfl)) (by decide) (fun K hK => ?_)
         refine goes_ Try.func80 (by kernel_rfl) rfl #[.string a1, .int .i64 a0_0, .int .i64 a0_1, .string a0_2, .slice A0_3 l0_3.length c0_3] (by rfl) rfl rfl (by (try simp only [List.map_toArray, List.map_cons, List.map_nil]); first | done | rfl | (simp only [List.length_drop, List.length_take]; rfl)) ?_
         with_reducible refine (mosaicref03_Check.calls kj3 a1 a0_0 a0_1 a0_2 _ _ l0_3 t704 _ ?side1 ?side2 A28.out).mono ?_
         (case side1 => repeat (first | exact (Kd.C_below HR0_3.out HB.out) | (with_reducible refine Kd.C_alloc ?_ _) | (with_reducible refine Kd.C_drewN ?_ _) | (with_reducible refine Kd.C_drew ?_)))
         (case side2 => exact HC0_3.out)
         rintro e w45 ⟨rfl, hb⟩
         refine ⟨_, rfl, ?_⟩
         have n0_ := Aside0.mk (Kd.R_below (by (with_reducible repeat (first | apply Kd.R_alloc | apply Kd.R_drewN | apply Kd.R_drew)); exact HO697.out) hb)
         have n1_ := Aside0.mk (Kd.R_below (by (with_reducible repeat (first | apply Kd.R_alloc | apply Kd.R_drewN | apply Kd.R_drew)); exact HO700.out) hb)
         have n2_ := Aside0.mk (blk_below (g := gb688) (o := .cells #[.int .i64 a0_0, .int .i64 a0_1, .string a0_2, .slice A0_3 l0_3.length c0_3] 101 (0, 0)) (by (with_reducible repeat (first | refine blk_drewN ?_ _ | refine blk_drew ?_ | refine blk_alloc ?_ _)); exact BK688.out) hb)
         have n3_ := Aside0.mk (below_step (by repeat (first | (with_reducible first | exact HB.out | apply below_alloc | apply pw_below_drewN | apply below_drew1 | refine below_set ?_ GE688.out) | exact HB.out)) hb)
         clear HO697
         clear HO700
         clear BK688
         clear HB
         have HO697 := n0_
         have HO700 := n1_
         have BK688 := n2_
         have HB := n3_
         clear n0_ n1_ n2_ n3_
         (try clear hb)
         (try clear hb2)
         (try clear hk)
         (try clear hi)
         refine hK.out _ _ ⟨(blk_cell BK688.out 0).trans rfl, (blk_cell BK688.out 1).trans rfl, (blk_cell BK688.out 2).trans rfl, (blk_cell BK688.out 3).trans rfl⟩ (fun hHeld => ?_)
         clear hK K
         refine norm_ (a' := ?_) ?_ ?_
         rotate_left
         ·
          show Act.put _ (some 107) _ = _
          simp only [Act.put, List.setIfInBounds_toArray, List.set_cons_zero, List.set_cons_succ, i64_w, i32_w]
          rfl
         refine pure_ (i := 32) (N := some 108) (v := ?_) (a' := ?_) #[true, true, true, true, true, true, true, true, true, true, true, true, true, true, true, true, true, true, true, true, true, true, true, true, true, true, true, true, true, true, true, true, true, false, false, false, false, false, false, false, false, false, false, false, false, false, false, false, false, false, false, false, false, false] rfl rfl (any_of HT_.out (by kernel_rfl)) (fun _ _ _ h => h) (Or.inl ⟨by rfl, ?_⟩) ?_ ?_
         rotate_left
         ·
          intro w'
          go_simp
          with_reducible rfl
         rotate_left
         ·
          simp only [Act.put, List.setIfInBounds_toArray, List.set_cons_zero, List.set_cons_succ, i64_w, i32_w]
          rfl
         refine pure_ (i := 33) (N := some 109) (v := ?_) (a' := ?_) #[true, true, true, true, true, true, true, true, true, true, true, true, true, true, true, true, true, true, true, true, true, true, true, true, true, true, true, true, true, true, true, true, true, true, false, false, false, false, false, false, false, false, false, false, false, false, false, false, false, false, false, false, false, false] rfl rfl (any_of HT_.out (by kernel_rfl)) (fun _ _ _ h => h) (Or.inl ⟨by rfl, ?_⟩) ?_ ?_
         rotate_left
         ·
          intro w'
          go_simp
          with_reducible rfl
         rotate_left
         ·
          simp only [Act.put, List.setIfInBounds_toArray, List.set_cons_zero, List.set_cons_succ, i64_w, i32_w]
          rfl
         refine pure_ (i := 34) (N := some 110) (v := ?_) (a' := ?_) #[true, true, true, true, true, true, true, true, true, true, true, true, true, true, true, true, true, true, true, true, true, true, true, true, true, true, true, true, true, true, true, true, true, true, true, false, false, false, false, false, false, false, false, false, false, false, false, false, false, false, false, false, false, false] rfl rfl (any_of HT_.out (by kernel_rfl)) (fun _ _ _ h => h) (Or.inl ⟨by rfl, ?_⟩) ?_ ?_
         rotate_left
         ·
          intro w'
          go_simp
          with_reducible rfl
         rotate_left
         ·
          simp only [Act.put, List.setIfInBounds_toArray, List.set_cons_zero, List.set_cons_succ, i64_w, i32_w]
          rfl
         refine pure_ (i := 35) (N := some 111) (v := ?_) (a' := ?_) #[true, true, true, true, true, true, true, true, true, true, true, true, true, true, true, true, true, true, true, true, true, true, true, true, true, true, true, true, true, true, true, true, true, true, true, true, false, false, false, false, false, false, false, false, false, false, false, false, false, false, false, false, false, false] rfl rfl (any_of HT_.out (by kernel_rfl)) (fun _ _ _ h => h) (Or.inl ⟨by rfl, ?_⟩) ?_ ?_
         rotate_left
         ·
          intro w'
          go_simp
          with_reducible rfl
         rotate_left
         ·
          simp only [Act.put, List.setIfInBounds_toArray, List.set_cons_zero, List.set_cons_succ, i64_w, i32_w]
          rfl
         refine pure_ (i := 37) (N := some 113) (v := ?_) (a' := ?_) #[true, true, true, true, true, true, true, true, true, true, true, true, true, true, true, true, true, true, true, true, true, true, true, true, true, true, true, true, true, true, true, true, true, true, true, true, false, true, false, false, false, false, false, false, false, false, false, false, false, false, false, false, false, false] rfl rfl (any_of HT_.out (by kernel_rfl)) (fun _ _ _ h => h) (Or.inl ⟨by rfl, ?_⟩) ?_ ?_
         rotate_left
         ·
          intro w'
          go_simp
          with_reducible rfl
         rotate_left
         ·
          simp only [Act.put, List.setIfInBounds_toArray, List.set_cons_zero, List.set_cons_succ, i64_w, i32_w]
          rfl
         refine pure_ (i := 39) (N := some 115) (v := ?_) (a' := ?_) #[true, true, true, true, true, true, true, true, true, true, true, true, true, true, true, true, true, true, true, true, true, true, true, true, true, true, true, true, true, true, true, true, true, true, true, true, false, true, false, true, false, false, false, false, false, false, false, false, false, false, false, false, false, false] rfl rfl (any_of HT_.out (by kernel_rfl)) (fun _ _ _ h => h) (Or.inl ⟨by rfl, ?_⟩) ?_ ?_
         rotate_left
         ·
          intro w'
          go_simp
          with_reducible rfl
         rotate_left
         ·
          simp only [Act.put, List.setIfInBounds_toArray, List.set_cons_zero, List.set_cons_succ, i64_w, i32_w]
          rfl
         refine pure_ (i := 40) (N := some 116) (v := ?_) (a' := ?_) #[true, true, true, true, true, true, true, true, true, true, true, true, true, true, true, true, true, true, true, true, true, true, true, true, true, true, true, true, true, true, true, true, true, true, true, true, false, true, false, true, true, false, false, false, false, false, false, false, false, false, false, false, false, false] rfl rfl (any_of HT_.out (by kernel_rfl)) (fun _ _ _ h => h) (Or.inl ⟨by rfl, ?_⟩) ?_ ?_
         rotate_left
         ·
          intro w'
          go_simp
          with_reducible rfl
         rotate_left
         ·
          simp only [Act.put, List.setIfInBounds_toArray, List.set_cons_zero, List.set_cons_succ, i64_w, i32_w]
          rfl
         refine pure_ (i := 43) (N := some 119) (v := ?_) (a' := ?_) #[true, true, true, true, true, true, true, true, true, true, true, true, true, true, true, true, true, true, true, true, true, true, true, true, true, true, true, true, true, true, true, true, true, true, true, true, false, true, false, true, true, false, false, true, false, false, false, false, false, false, false, false, false, false] rfl rfl (any_of HT_.out (by kernel_rfl)) (fun _ _ _ h => h) (Or.inl ⟨by rfl, ?_⟩) ?_ ?_
         rotate_left
         ·
          intro w'
          go_simp
          with_reducible rfl
         rotate_left
         ·
          simp only [Act.put, List.setIfInBounds_toArray, List.set_cons_zero, List.set_cons_succ, i64_w, i32_w]
          rfl
         refine pure_ (i := 45) (N := some 121) (v := ?_) (a' := ?_) #[true, true, true, true, true, true, true, true, true, true, true, true, true, true, true, true, true, true, true, true, true, true, true, true, true, true, true, true, true, true, true, true, true, true, true, true, false, true, false, true, true, false, false, true, false, true, false, false, false, false, false, false, false, false] rfl rfl (any_of HT_.out (by kernel_rfl)) (fun _ _ _ h => h) (Or.inl ⟨by rfl, ?_⟩) ?_ ?_
         rotate_left
         ·
          intro w'
          go_simp
          with_reducible rfl
         rotate_left
         ·
          simp only [Act.put, List.setIfInBounds_toArray, List.set_cons_zero, List.set_cons_succ, i64_w, i32_w]
          rfl
         refine pure_ (i := 47) (N := some 123) (v := ?_) (a' := ?_) #[true, true, true, true, true, true, true, true, true, true, true, true, true, true, true, true, true, true, true, true, true, true, true, true, true, true, true, true, true, true, true, true, true, true, true, true, false, true, false, true, true, false, false, true, false, true, false, true, false, false, false, false, false, false] rfl rfl (any_of HT_.out (by kernel_rfl)) (fun _ _ _ h => h) (Or.inl ⟨by rfl, ?_⟩) ?_ ?_
         rotate_left
         ·
          intro w'
          go_simp
          with_reducible rfl
         rotate_left
         ·
          simp only [Act.put, List.setIfInBounds_toArray, List.set_cons_zero, List.set_cons_succ, i64_w, i32_w]
          rfl
         refine pure_ (i := 48) (N := some 124) (v := ?_) (a' := ?_) #[true, true, true, true, true, true, true, true, true, true, true, true, true, true, true, true, true, true, true, true, true, true, true, true, true, true, true, true, true, true, true, true, true, true, true, true, false, true, false, true, true, false, false, true, false, true, false, true, true, false, false, false, false, false] rfl rfl (any_of HT_.out (by kernel_rfl)) (fun _ _ _ h => h) (Or.inl ⟨by rfl, ?_⟩) ?_ ?_
         rotate_left
         ·
          intro w'
          go_simp
          with_reducible rfl
         rotate_left
         ·
          simp only [Act.put, List.setIfInBounds_toArray, List.set_cons_zero, List.set_cons_succ, i64_w, i32_w]
          rfl
         refine take_ (i := 36) (N := some 112) (v := ?_) (a' := ?_) #[true, true, true, true, true, true, true, true, true, true, true, true, true, true, true, true, true, true, true, true, true, true, true, true, true, true, true, true, true, true, true, true, true, true, true, true, true, true, false, true, true, false, false, true, false, true, false, true, true, false, false, false, false, false] rfl rfl (take_ofW HT_.out HW_.out (by kernel_rfl)) (fun _ _ _ h => h) (Or.inl ⟨by rfl, ?_⟩) hHeld ?_ ?_
         rotate_left
         ·
          rintro w' ⟨s0, s1, s2, s3⟩
          go_simp
          with_reducible rfl
         rotate_left
         ·
          simp only [Act.put, List.setIfInBounds_toArray, List.set_cons_zero, List.set_cons_succ, i64_w, i32_w]
          rfl
         refine take_ (i := 38) (N := some 114) (v := ?_) (a' := ?_) #[true, true, true, true, true, true, true, true, true, true, true, true, true, true, true, true, true, true, true, true, true, true, true, true, true, true, true, true, true, true, true, true, true, true, true, true, true, true, true, true, true, false, false, true, false, true, false, true, true, false, false, false, false, false] rfl rfl (take_ofW HT_.out HW_.out (by kernel_rfl)) (fun _ _ _ h => h) (Or.inl ⟨by rfl, ?_⟩) hHeld ?_ ?_
         rotate_left
         ·
          rintro w' ⟨s0, s1, s2, s3⟩
          go_simp
          with_reducible rfl
         rotate_left
         ·
          simp only [Act.put, List.setIfInBounds_toArray, List.set_cons_zero, List.set_cons_succ, i64_w, i32_w]
          rfl
         refine take_ (i := 41) (N := some 117) (v := ?_) (a' := ?_) #[true, true, true, true, true, true, true, true, true, true, true, true, true, true, true, true, true, true, true, true, true, true, true, true, true, true, true, true, true, true, true, true, true, true, true, true, true, true, true, true, true, true, false, true, false, true, false, true, true, false, false, false, false, false] rfl rfl (take_ofW HT_.out HW_.out (by kernel_rfl)) (fun _ _ _ h => h) (Or.inl ⟨by rfl, ?_⟩) hHeld ?_ ?_
         rotate_left
         ·
          rintro w' ⟨s0, s1, s2, s3⟩
          go_simp
          with_reducible rfl
         rotate_left
         ·
          simp only [Act.put, List.setIfInBounds_toArray, List.set_cons_zero, List.set_cons_succ, i64_w, i32_w]
          rfl
         refine take_ (i := 44) (N := some 120) (v := ?_) (a' := ?_) #[true, true, true, true, true, true, true, true, true, true, true, true, true, true, true, true, true, true, true, true, true, true, true, true, true, true, true, true, true, true, true, true, true, true, true, true, true, true, true, true, true, true, false, true, true, true, false, true, true, false, false, false, false, false] rfl rfl (take_ofW HT_.out HW_.out (by kernel_rfl)) (fun _ _ _ h => h) (Or.inl ⟨by rfl, ?_⟩) hHeld ?_ ?_
         rotate_left
         ·
          rintro w' ⟨s0, s1, s2, s3⟩
          go_simp
          with_reducible rfl
         rotate_left
         ·
          simp only [Act.put, List.setIfInBounds_toArray, List.set_cons_zero, List.set_cons_succ, i64_w, i32_w]
          rfl
         refine take_ (i := 46) (N := some 122) (v := ?_) (a' := ?_) #[true, true, true, true, true, true, true, true, true, true, true, true, true, true, true, true, true, true, true, true, true, true, true, true, true, true, true, true, true, true, true, true, true, true, true, true, true, true, true, true, true, true, false, true, true, true, true, true, true, false, false, false, false, false] rfl rfl (take_ofW HT_.out HW_.out (by kernel_rfl)) (fun _ _ _ h => h) (Or.inl ⟨by rfl, ?_⟩) hHeld ?_ ?_
         rotate_left
         ·
          rintro w' ⟨s0, s1, s2, s3⟩
          go_simp
          with_reducible rfl
         rotate_left
         ·
          simp only [Act.put, List.setIfInBounds_toArray, List.set_cons_zero, List.set_cons_succ, i64_w, i32_w]
          rfl
         refine take_ (i := 49) (N := some 125) (v := ?_) (a' := ?_) #[true, true, true, true, true, true, true, true, true, true, true, true, true, true, true, true, true, true, true, true, true, true, true, true, true, true, true, true, true, true, true, true, true, true, true, true, true, true, true, true, true, true, false, true, true, true, true, true, true, true, false, false, false, false] rfl rfl (take_ofW HT_.out HW_.out (by kernel_rfl)) (fun _ _ _ h => h) (Or.inl ⟨by rfl, ?_⟩) hHeld ?_ ?_
         rotate_left
         ·
          rintro w' ⟨s0, s1, s2, s3⟩
          go_simp
          with_reducible rfl
         rotate_left
         ·
          simp only [Act.put, List.setIfInBounds_toArray, List.set_cons_zero, List.set_cons_succ, i64_w, i32_w]
          rfl
         refine one_ (i := 42) (N := some 118) #[true, true, true, true, true, true, true, true, true, true, true, true, true, true, true, true, true, true, true, true, true, true, true, true, true, true, true, true, true, true, true, true, true, true, true, true, true, true, true, true, true, true, true, true, true, true, true, true, true, true, false, false, false, false] rfl rfl (one_of HT_.out (by kernel_rfl)) (by decide) (fun K hK => ?_)
         refine goes_ Try.func81 (by kernel_rfl) rfl #[.int .i64 a0_0, .int .i64 a0_1, .string a2, .slice A0_3 l0_3.length c0_3] (by rfl) rfl rfl (by (try simp only [List.map_toArray, List.map_cons, List.map_nil]); first | done | rfl | (simp only [List.length_drop, List.length_take]; rfl)) ?_
         with_reducible refine (merkle_Road.calls kj3 a0_0 a0_1 a2 _ _ l0_3 t705 _ ?side1 ?side2 A30.out).mono ?_
         (case side1 => repeat (first | exact (Kd.C_below HR0_3.out HB.out) | (with_reducible refine Kd.C_alloc ?_ _) | (with_reducible refine Kd.C_drewN ?_ _) | (with_reducible refine Kd.C_drew ?_)))
         (case side2 => exact HC0_3.out)
         rintro e w46 ⟨v706, rfl, ho0, hb⟩
         refine ⟨_, rfl, ?_⟩
         have n0_ := Aside0.mk (Kd.R_elder' (by (with_reducible repeat (first | apply Kd.R_alloc | apply Kd.R_drewN | apply Kd.R_drew)); exact HO697.out) (Kd.R_base ho0) hb)
         have n1_ := Aside0.mk (Kd.R_elder' (by (with_reducible repeat (first | apply Kd.R_alloc | apply Kd.R_drewN | apply Kd.R_drew)); exact HO700.out) (Kd.R_base ho0) hb)
         have n2_ := Aside0.mk (Kd.R_lower (Kd.R_new' (Kd.R_new' ho0 (Kd.R_lt (by (with_reducible repeat (first | apply Kd.R_alloc | apply Kd.R_drewN | apply Kd.R_drew)); exact HO697.out))) (Kd.R_lt (by (with_reducible repeat (first | apply Kd.R_alloc | apply Kd.R_drewN | apply Kd.R_drew)); exact HO700.out))) (below_size (by repeat (first | (with_reducible first | exact HB.out | apply below_alloc | apply pw_below_drewN | apply below_drew1 | refine below_set ?_ GE688.out) | exact HB.out))))
         have n3_ := Aside0.mk (blk_below (g := gb688) (o := .cells #[.int .i64 a0_0, .int .i64 a0_1, .string a0_2, .slice A0_3 l0_3.length c0_3] 101 (0, 0)) (by (with_reducible repeat (first | refine blk_drewN ?_ _ | refine blk_drew ?_ | refine blk_alloc ?_ _)); exact BK688.out) hb)
         have n4_ := Aside0.mk (below_step (by repeat (first | (with_reducible first | exact HB.out | apply below_alloc | apply pw_below_drewN | apply below_drew1 | refine below_set ?_ GE688.out) | exact HB.out)) hb)
         clear HO697
         clear HO700
         clear BK688
         clear HB
         have HO697 := n0_
         have HO700 := n1_
         have HO707 := n2_
         have BK688 := n3_
         have HB := n4_
         clear n0_ n1_ n2_ n3_ n4_
         (try clear hb)
         (try clear hb2)
         (try clear hk)
         (try clear hi)
         (try clear ho0)
         refine hK.out _ _ ⟨(blk_cell BK688.out 0).trans rfl, (blk_cell BK688.out 1).trans rfl, (blk_cell BK688.out 2).trans rfl, (blk_cell BK688.out 3).trans rfl⟩ (fun hHeld => ?_)
         clear hK K
         refine norm_ (a' := ?_) ?_ ?_
         rotate_left
         ·
          show Act.put _ (some 118) _ = _
          simp only [Act.put, List.setIfInBounds_toArray, List.set_cons_zero, List.set_cons_succ, i64_w, i32_w]
          rfl
         refine one_ (i := 50) (N := some 126) #[true, true, true, true, true, true, true, true, true, true, true, true, true, true, true, true, true, true, true, true, true, true, true, true, true, true, true, true, true, true, true, true, true, true, true, true, true, true, true, true, true, true, true, true, true, true, true, true, true, true, true, false, false, false] rfl rfl (one_of HT_.out (by kernel_rfl)) (by decide) (fun K hK => ?_)
         refine goes_ Try.func82 (by kernel_rfl) rfl #[.int .i64 a0_0, .int .i64 a0_1, .string a2, .slice A0_3 l0_3.length c0_3] (by rfl) rfl rfl (by (try simp only [List.map_toArray, List.map_cons, List.map_nil]); first | done | rfl | (simp only [List.length_drop, List.length_take]; rfl)) ?_
         with_reducible refine (mosaicref03_Road.calls kj3 a0_0 a0_1 a2 _ _ l0_3 t708 _ ?side1 ?side2 A31.out).mono ?_
         (case side1 => repeat (first | exact (Kd.C_below HR0_3.out HB.out) | (with_reducible refine Kd.C_alloc ?_ _) | (with_reducible refine Kd.C_drewN ?_ _) | (with_reducible refine Kd.C_drew ?_)))
         (case side2 => exact HC0_3.out)
         rintro e w47 ⟨v709, rfl, ho0, hb⟩
         refine ⟨_, rfl, ?_⟩
         have n0_ := Aside0.mk (Kd.R_elder' (by (with_reducible repeat (first | apply Kd.R_alloc | apply Kd.R_drewN | apply Kd.R_drew)); exact HO697.out) (Kd.R_base ho0) hb)
         have n1_ := Aside0.mk (Kd.R_elder' (by (with_reducible repeat (first | apply Kd.R_alloc | apply Kd.R_drewN | apply Kd.R_drew)); exact HO700.out) (Kd.R_base ho0) hb)
         have n2_ := Aside0.mk (Kd.R_elder' (by (with_reducible repeat (first | apply Kd.R_alloc | apply Kd.R_drewN | apply Kd.R_drew)); exact HO707.out) (Kd.R_base ho0) hb)
         have n3_ := Aside0.mk (Kd.R_lower (Kd.R_new' (Kd.R_new' (Kd.R_new' ho0 (Kd.R_lt (by (with_reducible repeat (first | apply Kd.R_alloc | apply Kd.R_drewN | apply Kd.R_drew)); exact HO697.out))) (Kd.R_lt (by (with_reducible repeat (first | apply Kd.R_alloc | apply Kd.R_drewN | apply Kd.R_drew)); exact HO700.out))) (Kd.R_lt (by (with_reducible repeat (first | apply Kd.R_alloc | apply Kd.R_drewN | apply Kd.R_drew)); exact HO707.out))) (below_size (by repeat (first | (with_reducible first | exact HB.out | apply below_alloc | apply pw_below_drewN | apply below_drew1 | refine below_set ?_ GE688.out) | exact HB.out))))
         have n4_ := Aside0.mk (blk_below (g := gb688) (o := .cells #[.int .i64 a0_0, .int .i64 a0_1, .string a0_2, .slice A0_3 l0_3.length c0_3] 101 (0, 0)) (by (with_reducible repeat (first | refine blk_drewN ?_ _ | refine blk_drew ?_ | refine blk_alloc ?_ _)); exact BK688.out) hb)
         have n5_ := Aside0.mk (below_step (by repeat (first | (with_reducible first | exact HB.out | apply below_alloc | apply pw_below_drewN | apply below_drew1 | refine below_set ?_ GE688.out) | exact HB.out)) hb)
         clear HO697
         clear HO700
         clear HO707
         clear BK688
         clear HB
         have HO697 := n0_
         have HO700 := n1_
         have HO707 := n2_
         have HO710 := n3_
         have BK688 := n4_
         have HB := n5_
         clear n0_ n1_ n2_ n3_ n4_ n5_
         (try clear hb)
         (try clear hb2)
         (try clear hk)
         (try clear hi)
         (try clear ho0)
         obtain ⟨Ao48, co48, eo48⟩ := Kd.R_slice HO707.out
         (first | subst eo48 | (injection eo48 with f1_ f2_ f3_; have f4_ := f1_.symm; have f5_ := f3_.symm; clear f1_ f2_ f3_; subst f4_; subst f5_))
         obtain ⟨Ao49, co49, eo49⟩ := Kd.R_slice HO710.out
         (first | subst eo49 | (injection eo49 with f1_ f2_ f3_; have f4_ := f1_.symm; have f5_ := f3_.symm; clear f1_ f2_ f3_; subst f4_; subst f5_))
         refine hK.out _ _ ⟨(blk_cell BK688.out 0).trans rfl, (blk_cell BK688.out 1).trans rfl, (blk_cell BK688.out 2).trans rfl, (blk_cell BK688.out 3).trans rfl⟩ (fun hHeld => ?_)
         clear hK K
         refine norm_ (a' := ?_) ?_ ?_
         rotate_left
         ·
          show Act.put _ (some 126) _ = _
          simp only [Act.put, List.setIfInBounds_toArray, List.set_cons_zero, List.set_cons_succ, i64_w, i32_w]
          rfl
         refine one_ (i := 51) (N := some 127) #[true, true, true, true, true, true, true, true, true, true, true, true, true, true, true, true, true, true, true, true, true, true, true, true, true, true, true, true, true, true, true, true, true, true, true, true, true, true, true, true, true, true, true, true, true, true, true, true, true, true, true, true, false, false] rfl rfl (one_of HT_.out (by kernel_rfl)) (by decide) (fun K hK => ?_)
         refine goes_ Try.func54 (by kernel_rfl) rfl #[.slice Ao48 t705.length co48, .slice Ao49 t708.length co49] (by rfl) rfl rfl (by (try simp only [List.map_toArray, List.map_cons, List.map_nil]); first | done | rfl | (simp only [List.length_drop, List.length_take]; rfl)) ?_
         with_reducible refine (mosaicref03_Same.calls kj3 _ _ t705 _ _ t708 true _ ?side1 ?side2 ?side3 ?side4 A32.out).mono ?_
         (case side1 => repeat (first | exact (Kd.R_reads' HO707.out).2.2 | (with_reducible refine Kd.C_alloc ?_ _) | (with_reducible refine Kd.C_drewN ?_ _) | (with_reducible refine Kd.C_drew ?_)))
         (case side2 => exact (Kd.R_reads' HO707.out).2.1)
         (case side3 => repeat (first | exact (Kd.R_reads' HO710.out).2.2 | (with_reducible refine Kd.C_alloc ?_ _) | (with_reducible refine Kd.C_drewN ?_ _) | (with_reducible refine Kd.C_drew ?_)))
         (case side4 => exact (Kd.R_reads' HO710.out).2.1)
         rintro e w' ⟨rfl, ⟨nd, rfl⟩⟩
         refine ⟨_, rfl, ?_⟩
         refine hK.out _ _ ⟨(blk_cell BK688.out 0).trans rfl, (blk_cell BK688.out 1).trans rfl, (blk_cell BK688.out 2).trans rfl, (blk_cell BK688.out 3).trans rfl⟩ (fun hHeld => ?_)
         clear hK K
         refine norm_ (a' := ?_) ?_ ?_
         rotate_left
         ·
          show Act.put _ (some 127) _ = _
          simp only [Act.put, List.setIfInBounds_toArray, List.set_cons_zero, List.set_cons_succ, i64_w, i32_w]
          rfl
         refine pure_ (i := 52) (N := some 128) (v := ?_) (a' := ?_) #[true, true, true, true, true, true, true, true, true, true, true, true, true, true, true, true, true, true, true, true, true, true, true, true, true, true, true, true, true, true, true, true, true, true, true, true, true, true, true, true, true, true, true, true, true, true, true, true, true, true, true, true, true, false] rfl rfl (any_of HT_.out (by kernel_rfl)) (fun _ _ _ h => h) (Or.inl ⟨by rfl, ?_⟩) ?_ ?_
         rotate_left
         ·
          intro w'
          go_simp
          with_reducible rfl
         rotate_left
         ·
          simp only [Act.put, List.setIfInBounds_toArray, List.set_cons_zero, List.set_cons_succ, i64_w, i32_w]
          rfl
         refine pure_ (i := 53) (N := some 6) (v := ?_) (a' := ?_) #[true, true, true, true, true, true, true, true, true, true, true, true, true, true, true, true, true, true, true, true, true, true, true, true, true, true, true, true, true, true, true, true, true, true, true, true, true, true, true, true, true, true, true, true, true, true, true, true, true, true, true, true, true, true] rfl rfl (any_of HT_.out (by kernel_rfl)) (fun _ _ _ h => h) (Or.inl ⟨by rfl, ?_⟩) ?_ ?_
         rotate_left
         ·
          intro w'
          go_simp
          with_reducible rfl
         rotate_left
         ·
          simp only [Act.put, List.setIfInBounds_toArray, List.set_cons_zero, List.set_cons_succ, i64_w, i32_w]
          rfl
         refine done_ (done_of HT_.out (by kernel_rfl)) ?_
         try go_wp2
         go_ret
         exact ⟨by first | rfl | (simp [errW_none, errW_some] <;> rfl) | (simp [*, errW_none, errW_some] <;> rfl), by repeat (first | (with_reducible first | exact HB.out | apply below_alloc | apply pw_below_drewN | apply below_drew1 | refine below_set ?_ GE688.out) | exact HB.out)⟩
        ·
         rw [if_neg c29] at H
         have c29b0 : (t703 == t704) = false := by simpa using c29
         (try (have c29b1 : decide (t703 = t704) = false := by simpa using c29))
         (try (have c29b2 : (t703 == t704) = false := by simpa using c29))
         (try (have c29b3 : ¬ (t703 = t704) := by simpa using c29))
         clear c29
         exact absurd (Option.some.inj H) (by simp)
       ·
        rw [if_neg c26] at H
        have c26b0 : (t692 == t694) = false := beq_eq_false_iff_ne.mpr c26
        have c26b1 : (t692 != t694) = true := bne_iff_ne.mpr c26
        exact absurd (Option.some.inj H) (by simp)
      ·
       rw [if_neg c25] at H
       have c25b0 : (t691.toList == t693.toList) = false := beq_eq_false_iff_ne.mpr c25
       have c25b1 : (t691.toList != t693.toList) = true := bne_iff_ne.mpr c25
       exact absurd (Option.some.inj H) (by simp)
     ·
      replace c24 := Bool.eq_false_iff.mpr c24
      subst c24
      have H1 : (some false) = some true := by rw [if_neg (show ¬ (false = true) by decide)] at H; exact H
      clear H
      have H := H1
      clear H1
      exact absurd (Option.some.inj H) (by simp)
    ·
     replace c22 := Bool.eq_false_iff.mpr c22
     subst c22
     have H1 : (some false) = some true := by rw [if_neg (show ¬ (false = true) by decide)] at H; exact H
     clear H
     have H := H1
     clear H1
     exact absurd (Option.some.inj H) (by simp)
end Go.Proofs.Ytelcaepenfjloaa.Print
/-! #### StmMerkleFolds -/
-- By the kit's print, called by a program of this session with functions that are proved by hand.
namespace Go.Proofs.Ytelcaepenfjloaa.Print
open Go.RowKit Go.Proofs.YtelcaepenfjloaaW.PrintWords
/-- THE ONE PURE STATEMENT of mosaiclaw03_MerkleFolds. -/
def mosaiclaw03_MerkleFolds.Pure : Prop := ∀ (a0_0 : Int) (a0_1 : Int) (a0_2 : ByteArray) (l0_3 : List ByteArray) (a1 : ByteArray) (a2 : ByteArray), ((Lit.int .i64 a0_0).wf = true) → ((Lit.int .i64 a0_1).wf = true) → ((a0_2 : ByteArray).size ≤ maxLen) → ((l0_3 : List ByteArray).length ≤ maxLen ∧ ∀ x1_ ∈ (l0_3 : List ByteArray), (x1_ : ByteArray).size ≤ maxLen) → ((a1 : ByteArray).size ≤ maxLen) → ((a2 : ByteArray).size ≤ maxLen) → ∃ k, mosaiclaw03_MerkleFolds.f k a0_0 a0_1 a0_2 l0_3 a1 a2 = some true
end Go.Proofs.Ytelcaepenfjloaa.Print
/-! #### MaShaHex -/
/- sha.Hex: bytes in hexadecimal digits (strings.Builder). -/
-- MANUAL mosaic/sha.Hex making plain
-- ROOT mosaic/sha.Hex
namespace Go.Proofs.Ytelcaepenfjloaa.Print
open Go.RowKit Go.Proofs.YtelcaepenfjloaaW.PrintWords Go.Proofs.YtelcaepenfjloaaW.PrintLast Go.Proofs.YtelcaepenfjloaaW.PrintMore
open Go.Shelf
set_option linter.unusedVariables false
set_option linter.unusedSimpArgs false
def lays169_ren : Go.Shelf.Ren := ⟨fun | 169 => 90 | n => n, fun | 70 => 119 | 9 => 9 | 0 => 0 | 72 => 121 | 37 => 47 | 127 => 148 | 3 => 3 | 5 => 5 | n => n, fun | n => n⟩
theorem lays169 : Go.Proofs.Lays.n169 Try.prog lays169_ren := {
  mixed := by kernel_rfl
  f169 := Try.func90.trans (congrArg some (by kernel_rfl))
  t0 := Try.underlying0
  a0 := Try.isAgg0
  z0 := Try.sizeOf0
  v0 := Try.zeroValue0
  t3 := Try.underlying3
  a3 := Try.isAgg3
  z3 := Try.sizeOf3
  v3 := Try.zeroValue3
  t9 := Try.underlying9
  a9 := Try.isAgg9
  z9 := Try.sizeOf9
  v9 := Try.zeroValue9
  t37 := Try.underlying47
  a37 := Try.isAgg47
  z37 := Try.sizeOf47
  v37 := Try.zeroValue47
  t70 := Try.underlying119
  a70 := Try.isAgg119
  z70 := Try.sizeOf119
  v70 := Try.zeroValue119
  t72 := Try.underlying121
  a72 := Try.isAgg121
  z72 := Try.sizeOf121
  v72 := Try.zeroValue121
  t127 := Try.underlying148
  a127 := Try.isAgg148
  z127 := Try.sizeOf148
  v127 := Try.zeroValue148 }
theorem Builder_Extra_169 : Go.Proofs.Builder.Extra Try.prog lays169_ren := {
  sizeBuilder := by kernel_rfl
  liesBuilder := by kernel_rfl
  t5 := Try.underlying5
  a5 := Try.isAgg5
  z5 := Try.sizeOf5
  v5 := Try.zeroValue5
  infoByte := by kernel_rfl
  cellsByte := by kernel_rfl
  sizeByte := by kernel_rfl
  neB5 := by decide }

/-- What a builder that the call has made holds, handed back as a text. -/
theorem builderString_calls (B b : Nat) (l : List UInt8) (w : World) (h : Lib.IsBuilder 121 5 B b (Lib.byteCells l) w) (hBw : B ≤ w.heap.size) :
    Calls Try.prog 90 #[.pointer (some ⟨b, 0, none⟩)] w fun e w' => e = .returned (.string ⟨l.toArray⟩) ∧ Below B w w' := Go.Proofs.Any.Builder_String_any lays169 Builder_Extra_169 B b l w h hBw

theorem infoByte_ : (Try.prog.info? 5).map (fun i => (i.zero, i.size, i.bytes)) = some (some (.int .u8 0), 1, 1) := by kernel_rfl
set_option maxHeartbeats 1000000 in
set_option maxRecDepth 100000 in
theorem copyCheck_used (b : Nat) (w : World) (h0 : w.cell? ⟨b, 0, none⟩ = some (.pointer (some ⟨b, 0, none⟩))) :
    Calls Try.prog 116 #[.pointer (some ⟨b, 0, none⟩)] w fun e w' => e = .returned (.tuple #[]) ∧ w' = w := by
  obtain ⟨j, hj, _⟩ := Option.map_eq_some_iff.1 Builder_Extra_169.sizeBuilder
  go_enter Try.func116, Try.ntmps116
  go_wp2
  rw [Lib.run_neq_ptr_same w _ Try.underlying119 hj]
  go_wp2
  go_end0
  exact ⟨rfl, rfl⟩
set_option maxHeartbeats 1000000 in
set_option maxRecDepth 100000 in
theorem copyCheck_fresh (b : Nat) (w : World) (h0 : w.cell? ⟨b, 0, none⟩ = some (.pointer none)) (hsh : w.shape? b = some (121, 2)) (hfz : w.frozen? ⟨b, 0, none⟩ = false) :
    Calls Try.prog 116 #[.pointer (some ⟨b, 0, none⟩)] w fun e w' => e = .returned (.tuple #[]) ∧ w' = w.setCell ⟨b, 0, none⟩ (.pointer (some ⟨b, 0, none⟩)) := by
  obtain ⟨j, hj, hjs⟩ := Option.map_eq_some_iff.1 Builder_Extra_169.sizeBuilder
  go_enter Try.func116, Try.ntmps116
  go_wp2
  rw [Lib.run_to_unsafe w ⟨b, 0, none⟩ Try.underlying119 Try.underlying152 hj (by rw [hjs]; decide) hsh (Nat.zero_lt_succ 1)]
  simp only [Result.andThen]
  rw [Oper.upon_value]
  go_wp2
  rw [run_callFunc_extern Try.func125 (by kernel_rfl) (by kernel_rfl) (by kernel_rfl) (e := Extern.AbiNoEscape.same) (by kernel_rfl)]
  rw [Lib.run_noEscape]
  simp only [Result.andThen]
  rw [Oper.upon_value]
  go_wp2
  rw [Lib.run_from_unsafe w ⟨b, 0, none⟩ Try.underlying152 Try.underlying119 hj hsh Builder_Extra_169.liesBuilder]
  simp only [Result.andThen]
  rw [Oper.upon_value]
  go_wp2
  go_end0
  exact ⟨rfl, rfl⟩
theorem copyCheck_calls (B b : Nat) (bs : List Value) (w : World) (h : Lib.IsBuilder 121 5 B b bs w) :
    Calls Try.prog 116 #[.pointer (some ⟨b, 0, none⟩)] w fun e w' => e = .returned (.tuple #[]) ∧ (Lib.BuilderAt 121 5 B b (.pointer (some ⟨b, 0, none⟩)) bs w' ∧ Below B w w') := by
  rcases h with h | h
  · refine (copyCheck_fresh b w h.cell0 h.shape h.frozen0).mono ?_
    rintro e w' ⟨rfl, rfl⟩
    exact ⟨rfl, h.used _, (Below.refl B w).setCell (p := ⟨b, 0, none⟩) h.1 _⟩
  · refine (copyCheck_used b w h.cell0).mono ?_
    rintro e w' ⟨rfl, rfl⟩
    exact ⟨rfl, h, Below.refl B _⟩

set_option maxHeartbeats 2000000 in
set_option maxRecDepth 100000 in
theorem writeByte_calls (B b : Nat) (bs : List Value) (c : Int) (w : World) (h : Lib.IsBuilder 121 5 B b bs w) (hlen : bs.length + 1 ≤ 140737488355328) (hBw : B ≤ w.heap.size) :
    Calls Try.prog 89 #[.pointer (some ⟨b, 0, none⟩), .int .u8 c] w fun e w' => e = .returned .nilIface ∧ (Lib.BuilderAt 121 5 B b (.pointer (some ⟨b, 0, none⟩)) (bs ++ [.int .u8 c]) w' ∧ Below B w w') := by
  obtain ⟨i0, hi, hz0, hz1, hz2⟩ := info_parts infoByte_
  go_enter Try.func89, Try.ntmps89
  go_wp2_with (go_at_call 116; refine (copyCheck_calls B b bs _ h).mono ?_)
  rintro e w1 ⟨rfl, h1, hb1⟩
  obtain ⟨hB, v, hbk, hown, hne⟩ := h1
  have c0 : w1.cell? ⟨b, 0, none⟩ = some (.pointer (some ⟨b, 0, none⟩)) := by rw [Lib.cell_of_heap hbk]; rfl
  have c1 : w1.cell? ⟨b, 1, none⟩ = some v := by rw [Lib.cell_of_heap hbk]; rfl
  go_wp2_with (at_builtin; refine wpList_append_own _ rfl _ _ 47 rfl B 5 i0 (.int .u8 0) 1 1 Try.underlying47 hi hz0 hz1 hz2 rfl (by decide) _ _ _ rfl (hown.alloc _) ⟨w1.heap.size, 0, none⟩ 1 1 [.int .u8 c] rfl rfl ?c1 ?c2 ?c3 ?c4 ?c5 ?_)
  case c1 =>
    intro j u hj
    match j, hj with
    | 0, hj => simp at hj; subst hj; simp [Addr.add]
  case c2 => intro u hu; simp at hu; subst hu; rfl
  case c3 => unfold maxLen; omega
  case c4 => omega
  case c5 => have := hb1.size; simp; omega
  intro v' w2 hown' hgrow _
  have hlt : b < w1.heap.size := by
    rcases Nat.lt_or_ge b w1.heap.size with h' | h'
    · exact h'
    · simp [Array.getElem?_eq_none h'] at hbk
  have hb2 : w2.heap[b]? = some (.cells #[.pointer (some ⟨b, 0, none⟩), v] 121 (0, 0)) := by
    rw [hgrow.block b (by simp; omega) (fun e => hne e.symm), Lib.alloc_old w1 _ b hlt]
    exact hbk
  have d0 : w2.cell? ⟨b, 0, none⟩ = some (.pointer (some ⟨b, 0, none⟩)) := by rw [Lib.cell_of_heap hb2]; rfl
  have d1 : w2.cell? ⟨b, 1, none⟩ = some v := by rw [Lib.cell_of_heap hb2]; rfl
  have f1 : w2.frozen? ⟨b, 1, none⟩ = false := Lib.frozen_of_heap hb2 1
  obtain ⟨g, cap, rfl⟩ : ∃ g cap, v' = .slice (some ⟨g, 0, none⟩) (bs.length + 1) cap := by
    rcases hown'.2 with ⟨_, h0⟩ | ⟨g, cap, cur, hv, _⟩
    · omega
    · exact ⟨g, cap, hv⟩
  go_wp2
  go_ret
  refine ⟨rfl, ?_, ?_⟩
  · exact Lib.BuilderAt.put (T := 121) (e := 5) hB hb2 (bs' := bs ++ [.int .u8 c]) (by simpa using hown') (by decide)
  · exact ((hb1.alloc (by have := hb1.size; omega) _).grown hgrow (by have := hb1.size; simp; omega) (fun k hk => (hown.lt k hk).1)).setCell (p := ⟨b, 1, none⟩) hB _

def hexDigits : ByteArray := ⟨#[48, 49, 50, 51, 52, 53, 54, 55, 56, 57, 97, 98, 99, 100, 101, 102]⟩
def hexTwo (c : Int) : List Int := [bt hexDigits (c / 16), bt hexDigits (c % 16)]
def hexL (l : List Int) : List Int := l.flatMap hexTwo
def sha_Hex.f (a0 : ByteArray) : Option ByteArray := if a0.size ≤ 70368744177664 then some (strOfNums (hexL (bytesOf a0))) else none
theorem hexL_step (l : List Int) (i : Nat) (h : i < l.length) : hexL (l.take (i + 1)) = hexL (l.take i) ++ hexTwo (l.getD i 0) := by
  unfold hexL
  rw [List.take_succ_eq_append_getElem h, List.flatMap_append, List.getD_eq_getElem?_getD, List.getElem?_eq_getElem h]
  simp
theorem hexL_length (l : List Int) : (hexL l).length = 2 * l.length := by
  induction l with
  | nil => rfl
  | cons a l ih => rw [hexL, List.flatMap_cons, List.length_append, ← hexL, ih]; simp [hexTwo]; omega
theorem nums_bytes (xs : List Int) (h : ∀ x ∈ xs, 0 ≤ x ∧ x ≤ 255) : nums .u8 xs = Lib.byteCells (xs.map fun n => UInt8.ofNat n.toNat) := by
  unfold nums Lib.byteCells
  rw [List.map_map]
  refine List.map_congr_left fun x hx => ?_
  have := h x hx
  have e : (UInt8.ofNat x.toNat).toNat = x.toNat := UInt8.toNat_ofNat_of_lt' (by show x.toNat < 256; omega)
  simp only [Function.comp, e]
  congr 1
  omega
theorem hexL_range (l : List Int) : ∀ x ∈ hexL l, 0 ≤ x ∧ x ≤ 255 := by
  intro x hx
  obtain ⟨c, _, hc⟩ := List.mem_flatMap.1 hx
  simp only [hexTwo, List.mem_cons, List.not_mem_nil, or_false] at hc
  rcases hc with rfl | rfl
  · exact bt_range _ _
  · exact bt_range _ _

set_option maxHeartbeats 800000 in
set_option maxRecDepth 100000 in
theorem sha_Hex.calls (a0 : ByteArray) (r : ByteArray) (w : World) (h : sha_Hex.f a0 = some r) :
    Calls Try.prog 42 #[.string a0] w fun e w' => e = .returned (.string r) ∧ Below w.heap.size w w' := by
  unfold sha_Hex.f at h
  by_cases hs : a0.size ≤ 70368744177664
  · rw [if_pos hs] at h
    have hr := (Option.some.inj h).symm
    clear h
    have HR := Aside0.mk hr
    clear hr
    go_enter Try.func42, Try.ntmps42
    go_wp2
    go_loopg [4, 7] (a0.size + 1) (fun gg _ v7 wr => ∃ i : Nat, i + gg = a0.size + 1 ∧ v7 = .int .i64 (i : Int) ∧ Aside0 (Lib.IsBuilder 121 5 w.heap.size w.heap.size (nums .u8 (hexL ((bytesOf a0).take i))) wr) ∧ Aside0 (Below w.heap.size w wr))
    case atStart => exact ⟨0, by omega, rfl, ⟨.inl ⟨Nat.le_refl _, _, heap_alloc_new _ _, World.ownsRow_nil .., by simp [Value.ownBlock]⟩⟩, ⟨below_alloc (Below.refl _ _) _⟩⟩
    case round =>
      obtain ⟨i, hi, rfl, HO, HB⟩ := hrel
      by_cases hlt : i < a0.size
      · obtain ⟨gg, rfl⟩ : ∃ m, gk = m + 1 := ⟨gk - 1, by omega⟩
        have hltz : (i : Int) < (a0.size : Int) := by omega
        have p0 : 0 ≤ (i : Int) := by omega
        have hx : ((a0[i]'hlt).toNat : Int) = bt a0 (i : Int) := bt_at a0 (i : Int) hlt
        have hst := hexL_step (bytesOf a0) i (by rw [bytesOf_length]; exact hlt)
        rw [show (bytesOf a0).getD i 0 = bt a0 (i : Int) by rw [← rd_bytesOf]; simp [rd]] at hst
        have hlen : (nums .u8 (hexL ((bytesOf a0).take i))).length + 2 ≤ 140737488355328 := by
          rw [nums_length, hexL_length, List.length_take]
          omega
        have hrg := bt_range a0 (i : Int)
        generalize bt a0 (i : Int) = c at hx hst hrg
        generalize hbs : hexL ((bytesOf a0).take i) = bs at HO hst hlen
        have HST := Aside0.mk hst
        have HLEN := Aside0.mk hlen
        clear hst hlen hbs
        obtain ⟨j1, hj1⟩ : ∃ j : Int, c / 16 = j := ⟨_, rfl⟩
        obtain ⟨j2, hj2⟩ : ∃ j : Int, Go.bits .and .u8 c 15 = j := ⟨_, rfl⟩
        have e2 : c % 16 = j2 := by rw [← hj2, u8_and15 c hrg.1 (by omega)]
        have p1 : 0 ≤ j1 := by omega
        have q1 : j1 < 16 := by omega
        have p2 : 0 ≤ j2 := by omega
        have q2 : j2 < 16 := by omega
        have hx1 := bt_at (⟨#[48, 49, 50, 51, 52, 53, 54, 55, 56, 57, 97, 98, 99, 100, 101, 102]⟩ : ByteArray) j1
        have hx2 := bt_at (⟨#[48, 49, 50, 51, 52, 53, 54, 55, 56, 57, 97, 98, 99, 100, 101, 102]⟩ : ByteArray) j2
        have E1 := Aside0.mk hj1
        have E2 := Aside0.mk e2
        clear e2
        obtain ⟨d1, hd1⟩ : ∃ j : Int, bt (⟨#[48, 49, 50, 51, 52, 53, 54, 55, 56, 57, 97, 98, 99, 100, 101, 102]⟩ : ByteArray) j1 = j := ⟨_, rfl⟩
        obtain ⟨d2, hd2⟩ : ∃ j : Int, bt (⟨#[48, 49, 50, 51, 52, 53, 54, 55, 56, 57, 97, 98, 99, 100, 101, 102]⟩ : ByteArray) j2 = j := ⟨_, rfl⟩
        rw [hd1] at hx1
        rw [hd2] at hx2
        have D1 := Aside0.mk hd1
        have D2 := Aside0.mk hd2
        clear hd1 hd2 hrg
        go_wp2_with (first
          | (go_at_call 89; (with_reducible refine (writeByte_calls w.heap.size w.heap.size (nums .u8 bs) d1 _ HO.out (by have := HLEN.out; omega) HB.out.size).mono ?_); rintro e w1 ⟨rfl, hb1, hl1⟩; have HO1 := Aside0.mk (show Lib.IsBuilder 121 5 w.heap.size w.heap.size _ _ from .inr hb1); have HB1 := Aside0.mk (HB.out.trans (hl1.mono (Nat.le_refl _))); clear HO HB hb1 hl1)
          | (go_at_call 89; (with_reducible refine (writeByte_calls w.heap.size w.heap.size (nums .u8 bs ++ [.int .u8 d1]) d2 _ HO1.out (by have := HLEN.out; simp only [List.length_append, List.length_cons, List.length_nil]; omega) HB1.out.size).mono ?_); rintro e w2 ⟨rfl, hb2, hl2⟩; have HO2 := Aside0.mk hb2; have HB2 := Aside0.mk (HB1.out.trans (hl2.mono (Nat.le_refl _))); clear HO1 HB1 hb2 hl2))
        go_roundg gg
        case measure => omega
        case rel => exact ⟨i + 1, by omega, by go_num, ⟨.inr (by
          rw [HST.out, nums_append]
          have e : nums .u8 (hexTwo c) = [.int .u8 d1, .int .u8 d2] := by
            unfold hexTwo hexDigits
            rw [E1.out, E2.out, D1.out, D2.out]
            rfl
          rw [e]
          have := HO2.out
          rw [List.append_assoc] at this
          exact this)⟩, HB2⟩
      · have hltz : ¬ (i : Int) < (a0.size : Int) := by omega
        have hall : (bytesOf a0).take i = bytesOf a0 := List.take_of_length_le (by rw [bytesOf_length]; omega)
        rw [hall, nums_bytes _ (hexL_range _)] at HO
        clear hall
        go_wp2_with (go_at_call 90; refine (builderString_calls w.heap.size w.heap.size _ _ HO.out HB.out.size).mono ?_; rintro e w1 ⟨rfl, hb1⟩)
        go_ret
        exact ⟨by rw [HR.out]; rfl, HB.out.trans (hb1.mono (Nat.le_refl _))⟩
  · rw [if_neg hs] at h
    exact absurd h (by simp)
end Go.Proofs.Ytelcaepenfjloaa.Print
/-! #### Pr25 -/
-- By the kit's print, called by a program of this session with functions that are proved by hand.
namespace Go.Proofs.Ytelcaepenfjloaa.Print
open Go.RowKit Go.Proofs.YtelcaepenfjloaaW.PrintWords Go.Proofs.YtelcaepenfjloaaW.PrintLast Go.Proofs.YtelcaepenfjloaaW.PrintMore
attribute [local go_sem] max2_int min2_int max_two min_two max_three min_three max_four min_four
set_option linter.unusedVariables false
set_option linter.unusedSimpArgs false

/-! ### mosaiclaw01_awake: function 25 -/
def mosaiclaw01_awake.f  : Option (Bool) := (sha_Sum.f (⟨#[97, 98, 99]⟩ : ByteArray)).bind fun t115 => ((sha_Hex.f t115).bind fun t116 => (if t116.toList = ([98, 97, 55, 56, 49, 54, 98, 102, 56, 102, 48, 49, 99, 102, 101, 97, 52, 49, 52, 49, 52, 48, 100, 101, 53, 100, 97, 101, 50, 50, 50, 51, 98, 48, 48, 51, 54, 49, 97, 51, 57, 54, 49, 55, 55, 97, 57, 99, 98, 52, 49, 48, 102, 102, 54, 49, 102, 50, 48, 48, 49, 53, 97, 100] : List UInt8) then ((sha_Sum.f (⟨#[]⟩ : ByteArray)).bind fun t117 => ((sha_Hex.f t117).bind fun t118 => (some (t118.toList == ([101, 51, 98, 48, 99, 52, 52, 50, 57, 56, 102, 99, 49, 99, 49, 52, 57, 97, 102, 98, 102, 52, 99, 56, 57, 57, 54, 102, 98, 57, 50, 52, 50, 55, 97, 101, 52, 49, 101, 52, 54, 52, 57, 98, 57, 51, 52, 99, 97, 52, 57, 53, 57, 57, 49, 98, 55, 56, 53, 50, 98, 56, 53, 53] : List UInt8))))) else (some false)))
set_option maxHeartbeats 8000000 in
set_option maxRecDepth 100000 in
theorem mosaiclaw01_awake.calls  (r : Bool) (w : World) (h : mosaiclaw01_awake.f  = some r) :
  Calls Try.prog 25 #[] w fun e w' => e = .returned (.bool r) ∧ Below w.heap.size w w' := by
 have HB := Aside0.mk (Below.refl w.heap.size w)
 have H : ((sha_Sum.f (⟨#[97, 98, 99]⟩ : ByteArray)).bind fun t115 => ((sha_Hex.f t115).bind fun t116 => (if t116.toList = ([98, 97, 55, 56, 49, 54, 98, 102, 56, 102, 48, 49, 99, 102, 101, 97, 52, 49, 52, 49, 52, 48, 100, 101, 53, 100, 97, 101, 50, 50, 50, 51, 98, 48, 48, 51, 54, 49, 97, 51, 57, 54, 49, 55, 55, 97, 57, 99, 98, 52, 49, 48, 102, 102, 54, 49, 102, 50, 48, 48, 49, 53, 97, 100] : List UInt8) then ((sha_Sum.f (⟨#[]⟩ : ByteArray)).bind fun t117 => ((sha_Hex.f t117).bind fun t118 => (some (t118.toList == ([101, 51, 98, 48, 99, 52, 52, 50, 57, 56, 102, 99, 49, 99, 49, 52, 57, 97, 102, 98, 102, 52, 99, 56, 57, 57, 54, 102, 98, 57, 50, 52, 50, 55, 97, 101, 52, 49, 101, 52, 54, 52, 57, 98, 57, 51, 52, 99, 97, 52, 57, 53, 57, 57, 49, 98, 55, 56, 53, 50, 98, 56, 53, 53] : List UInt8))))) else (some false)))) = some r := h
 clear h
 replace H := Option.bind_eq_some_iff.mp H
 obtain ⟨t115, A10, H⟩ := H
 replace H : ((sha_Hex.f t115).bind fun t116 => (if t116.toList = ([98, 97, 55, 56, 49, 54, 98, 102, 56, 102, 48, 49, 99, 102, 101, 97, 52, 49, 52, 49, 52, 48, 100, 101, 53, 100, 97, 101, 50, 50, 50, 51, 98, 48, 48, 51, 54, 49, 97, 51, 57, 54, 49, 55, 55, 97, 57, 99, 98, 52, 49, 48, 102, 102, 54, 49, 102, 50, 48, 48, 49, 53, 97, 100] : List UInt8) then ((sha_Sum.f (⟨#[]⟩ : ByteArray)).bind fun t117 => ((sha_Hex.f t117).bind fun t118 => (some (t118.toList == ([101, 51, 98, 48, 99, 52, 52, 50, 57, 56, 102, 99, 49, 99, 49, 52, 57, 97, 102, 98, 102, 52, 99, 56, 57, 57, 54, 102, 98, 57, 50, 52, 50, 55, 97, 101, 52, 49, 101, 52, 54, 52, 57, 98, 57, 51, 52, 99, 97, 52, 57, 53, 57, 57, 49, 98, 55, 56, 53, 50, 98, 56, 53, 53] : List UInt8))))) else (some false))) = some r := H
 have A1 := Aside0.mk A10
 clear A10
 replace H := Option.bind_eq_some_iff.mp H
 obtain ⟨t116, A20, H⟩ := H
 replace H : (if t116.toList = ([98, 97, 55, 56, 49, 54, 98, 102, 56, 102, 48, 49, 99, 102, 101, 97, 52, 49, 52, 49, 52, 48, 100, 101, 53, 100, 97, 101, 50, 50, 50, 51, 98, 48, 48, 51, 54, 49, 97, 51, 57, 54, 49, 55, 55, 97, 57, 99, 98, 52, 49, 48, 102, 102, 54, 49, 102, 50, 48, 48, 49, 53, 97, 100] : List UInt8) then ((sha_Sum.f (⟨#[]⟩ : ByteArray)).bind fun t117 => ((sha_Hex.f t117).bind fun t118 => (some (t118.toList == ([101, 51, 98, 48, 99, 52, 52, 50, 57, 56, 102, 99, 49, 99, 49, 52, 57, 97, 102, 98, 102, 52, 99, 56, 57, 57, 54, 102, 98, 57, 50, 52, 50, 55, 97, 101, 52, 49, 101, 52, 54, 52, 57, 98, 57, 51, 52, 99, 97, 52, 57, 53, 57, 57, 49, 98, 55, 56, 53, 50, 98, 56, 53, 53] : List UInt8))))) else (some false)) = some r := H
 have A2 := Aside0.mk A20
 clear A20
 by_cases c3 : t116.toList = ([98, 97, 55, 56, 49, 54, 98, 102, 56, 102, 48, 49, 99, 102, 101, 97, 52, 49, 52, 49, 52, 48, 100, 101, 53, 100, 97, 101, 50, 50, 50, 51, 98, 48, 48, 51, 54, 49, 97, 51, 57, 54, 49, 55, 55, 97, 57, 99, 98, 52, 49, 48, 102, 102, 54, 49, 102, 50, 48, 48, 49, 53, 97, 100] : List UInt8)
 ·
  rw [if_pos c3] at H
  have c3b0 : (t116.toList == ([98, 97, 55, 56, 49, 54, 98, 102, 56, 102, 48, 49, 99, 102, 101, 97, 52, 49, 52, 49, 52, 48, 100, 101, 53, 100, 97, 101, 50, 50, 50, 51, 98, 48, 48, 51, 54, 49, 97, 51, 57, 54, 49, 55, 55, 97, 57, 99, 98, 52, 49, 48, 102, 102, 54, 49, 102, 50, 48, 48, 49, 53, 97, 100] : List UInt8)) = true := beq_iff_eq.mpr c3
  have c3b1 : (t116.toList != ([98, 97, 55, 56, 49, 54, 98, 102, 56, 102, 48, 49, 99, 102, 101, 97, 52, 49, 52, 49, 52, 48, 100, 101, 53, 100, 97, 101, 50, 50, 50, 51, 98, 48, 48, 51, 54, 49, 97, 51, 57, 54, 49, 55, 55, 97, 57, 99, 98, 52, 49, 48, 102, 102, 54, 49, 102, 50, 48, 48, 49, 53, 97, 100] : List UInt8)) = false := bne_eq_false_iff_eq.mpr c3
  clear c3
  replace H := Option.bind_eq_some_iff.mp H
  obtain ⟨t117, A40, H⟩ := H
  replace H : ((sha_Hex.f t117).bind fun t118 => (some (t118.toList == ([101, 51, 98, 48, 99, 52, 52, 50, 57, 56, 102, 99, 49, 99, 49, 52, 57, 97, 102, 98, 102, 52, 99, 56, 57, 57, 54, 102, 98, 57, 50, 52, 50, 55, 97, 101, 52, 49, 101, 52, 54, 52, 57, 98, 57, 51, 52, 99, 97, 52, 57, 53, 57, 57, 49, 98, 55, 56, 53, 50, 98, 56, 53, 53] : List UInt8)))) = some r := H
  have A4 := Aside0.mk A40
  clear A40
  replace H := Option.bind_eq_some_iff.mp H
  obtain ⟨t118, A50, H⟩ := H
  replace H : (some (t118.toList == ([101, 51, 98, 48, 99, 52, 52, 50, 57, 56, 102, 99, 49, 99, 49, 52, 57, 97, 102, 98, 102, 52, 99, 56, 57, 57, 54, 102, 98, 57, 50, 52, 50, 55, 97, 101, 52, 49, 101, 52, 54, 52, 57, 98, 57, 51, 52, 99, 97, 52, 57, 53, 57, 57, 49, 98, 55, 56, 53, 50, 98, 56, 53, 53] : List UInt8))) = some r := H
  have A5 := Aside0.mk A50
  clear A50
  obtain rfl := Option.some.inj H
  go_enter Try.func25, Try.ntmps25
  go_wp2_with (first | ((with_reducible refine gate_callee (f := 26) rfl ?_); refine goesL_ (some 1) rfl rfl Try.func26 (by kernel_rfl) rfl #[.string (⟨#[97, 98, 99]⟩ : ByteArray)] rfl (by (try simp only [List.map_toArray, List.map_cons, List.map_nil]); first | done | rfl | (simp only [List.length_drop, List.length_take]; rfl)) ?_; (with_reducible refine (sha_Sum.calls (⟨#[97, 98, 99]⟩ : ByteArray) t115 _ A1.out).mono ?_); rintro e w6 ⟨rfl, hb⟩; refine ⟨_, rfl, ?_⟩; have n0_ := Aside0.mk (below_step (by repeat (first | (with_reducible first | exact HB.out | apply below_alloc | apply pw_below_drewN | apply below_drew1) | exact HB.out)) hb); clear HB; have HB := n0_; clear n0_; (try clear hb); (try clear hb2); (try clear hk); (try clear hi)) | ((with_reducible refine gate_callee (f := 42) rfl ?_); refine goesL_ (some 2) rfl rfl Try.func42 (by kernel_rfl) rfl #[.string t115] rfl (by (try simp only [List.map_toArray, List.map_cons, List.map_nil]); first | done | rfl | (simp only [List.length_drop, List.length_take]; rfl)) ?_; (with_reducible refine (sha_Hex.calls t115 t116 _ A2.out).mono ?_); rintro e w7 ⟨rfl, hb⟩; refine ⟨_, rfl, ?_⟩; have n0_ := Aside0.mk (below_step (by repeat (first | (with_reducible first | exact HB.out | apply below_alloc | apply pw_below_drewN | apply below_drew1) | exact HB.out)) hb); clear HB; have HB := n0_; clear n0_; (try clear hb); (try clear hb2); (try clear hk); (try clear hi)) | (go_at_call 26; (with_reducible refine (sha_Sum.calls (⟨#[]⟩ : ByteArray) t117 _ A4.out).mono ?_); rintro e w8 ⟨rfl, hb⟩; have n0_ := Aside0.mk (below_step (by repeat (first | (with_reducible first | exact HB.out | apply below_alloc | apply pw_below_drewN | apply below_drew1) | exact HB.out)) hb); clear HB; have HB := n0_; clear n0_; (try clear hb); (try clear hb2); (try clear hk); (try clear hi)) | (go_at_call 42; (with_reducible refine (sha_Hex.calls t117 t118 _ A5.out).mono ?_); rintro e w9 ⟨rfl, hb⟩; have n0_ := Aside0.mk (below_step (by repeat (first | (with_reducible first | exact HB.out | apply below_alloc | apply pw_below_drewN | apply below_drew1) | exact HB.out)) hb); clear HB; have HB := n0_; clear n0_; (try clear hb); (try clear hb2); (try clear hk); (try clear hi)))
  go_ret
  exact ⟨by first | rfl | (simp [errW_none, errW_some] <;> rfl) | (simp [*, errW_none, errW_some] <;> rfl), by repeat (first | (with_reducible first | exact HB.out | apply below_alloc | apply pw_below_drewN | apply below_drew1) | exact HB.out)⟩
 ·
  rw [if_neg c3] at H
  have c3b0 : (t116.toList == ([98, 97, 55, 56, 49, 54, 98, 102, 56, 102, 48, 49, 99, 102, 101, 97, 52, 49, 52, 49, 52, 48, 100, 101, 53, 100, 97, 101, 50, 50, 50, 51, 98, 48, 48, 51, 54, 49, 97, 51, 57, 54, 49, 55, 55, 97, 57, 99, 98, 52, 49, 48, 102, 102, 54, 49, 102, 50, 48, 48, 49, 53, 97, 100] : List UInt8)) = false := beq_eq_false_iff_ne.mpr c3
  have c3b1 : (t116.toList != ([98, 97, 55, 56, 49, 54, 98, 102, 56, 102, 48, 49, 99, 102, 101, 97, 52, 49, 52, 49, 52, 48, 100, 101, 53, 100, 97, 101, 50, 50, 50, 51, 98, 48, 48, 51, 54, 49, 97, 51, 57, 54, 49, 55, 55, 97, 57, 99, 98, 52, 49, 48, 102, 102, 54, 49, 102, 50, 48, 48, 49, 53, 97, 100] : List UInt8)) = true := bne_iff_ne.mpr c3
  obtain rfl := Option.some.inj H
  go_enter Try.func25, Try.ntmps25
  go_wp2_with (first | ((with_reducible refine gate_callee (f := 26) rfl ?_); refine goesL_ (some 1) rfl rfl Try.func26 (by kernel_rfl) rfl #[.string (⟨#[97, 98, 99]⟩ : ByteArray)] rfl (by (try simp only [List.map_toArray, List.map_cons, List.map_nil]); first | done | rfl | (simp only [List.length_drop, List.length_take]; rfl)) ?_; (with_reducible refine (sha_Sum.calls (⟨#[97, 98, 99]⟩ : ByteArray) t115 _ A1.out).mono ?_); rintro e w10 ⟨rfl, hb⟩; refine ⟨_, rfl, ?_⟩; have n0_ := Aside0.mk (below_step (by repeat (first | (with_reducible first | exact HB.out | apply below_alloc | apply pw_below_drewN | apply below_drew1) | exact HB.out)) hb); clear HB; have HB := n0_; clear n0_; (try clear hb); (try clear hb2); (try clear hk); (try clear hi)) | ((with_reducible refine gate_callee (f := 42) rfl ?_); refine goesL_ (some 2) rfl rfl Try.func42 (by kernel_rfl) rfl #[.string t115] rfl (by (try simp only [List.map_toArray, List.map_cons, List.map_nil]); first | done | rfl | (simp only [List.length_drop, List.length_take]; rfl)) ?_; (with_reducible refine (sha_Hex.calls t115 t116 _ A2.out).mono ?_); rintro e w11 ⟨rfl, hb⟩; refine ⟨_, rfl, ?_⟩; have n0_ := Aside0.mk (below_step (by repeat (first | (with_reducible first | exact HB.out | apply below_alloc | apply pw_below_drewN | apply below_drew1) | exact HB.out)) hb); clear HB; have HB := n0_; clear n0_; (try clear hb); (try clear hb2); (try clear hk); (try clear hi)))
  go_ret
  exact ⟨by first | rfl | (simp [errW_none, errW_some] <;> rfl) | (simp [*, errW_none, errW_some] <;> rfl), by repeat (first | (with_reducible first | exact HB.out | apply below_alloc | apply pw_below_drewN | apply below_drew1) | exact HB.out)⟩

end Go.Proofs.Ytelcaepenfjloaa.Print
/-! #### PureW -/
/- Words for pure statements: rounds that suffice (Ev), tests, numbers, lists. -/
namespace Go.Proofs.YtelcaepenfjloaaW.PrintWords
theorem Ev.pos {α : Type} {c : Prop} [Decidable c] {f g : Nat → Option α} {r : α} (h : c) (k : Ev f r) : Ev (fun n => if c then f n else g n) r := by
  simpa only [if_pos h] using k
theorem Ev.neg {α : Type} {c : Prop} [Decidable c] {f g : Nat → Option α} {r : α} (h : ¬ c) (k : Ev g r) : Ev (fun n => if c then f n else g n) r := by
  simpa only [if_neg h] using k
theorem Ev.some_ {α : Type} {a r : α} (h : a = r) : Ev (fun _ => some a) r := h ▸ Ev.now a
theorem Ev.some_bind {α β : Type} {a : α} {f : Nat → α → Option β} {r : β} (k : Ev (fun n => f n a) r) : Ev (fun n => (some a).bind (f n)) r := k
theorem Ev.to {α : Type} {g : Nat → Option α} {r r' : α} (h : Ev g r) (e : r = r') : Ev g r' := e ▸ h
/-- A call that has no rounds. -/
theorem Ev.call {α β : Type} {o : Option α} {a : α} {f : Nat → α → Option β} {r : β} (h : o = some a) (k : Ev (fun n => f n a) r) : Ev (fun n => o.bind (f n)) r := by
  subst h
  exact k
theorem Ev.succ {α : Type} {g : Nat → Option α} {r : α} (k : Ev (fun n => g (n + 1)) r) : Ev g r := Ev.step (fun _ => rfl) k

end Go.Proofs.YtelcaepenfjloaaW.PrintWords
namespace Go.Proofs.Ytelcaepenfjloaa.Pure
open Go.RowKit Go.Proofs.YtelcaepenfjloaaW.PrintWords
set_option linter.unusedVariables false

theorem wrap_succ (i : Nat) (h : i < 9223372036854775807) : wrap64 ((i : Int) + 1) = ((i + 1 : Nat) : Int) := by unfold wrap64; omega
theorem rd_nat (l : List Int) (i : Nat) : rd l (i : Int) = l.getD i 0 := by simp [rd]
end Go.Proofs.Ytelcaepenfjloaa.Pure
/-! #### PureSha -/
/- SHA-256 in plain words: the reference's sum is the program's. -/
namespace Go.Proofs.Ytelcaepenfjloaa.Pure
open Go.RowKit Go.Proofs.Ytelcaepenfjloaa.Print Go.Proofs.YtelcaepenfjloaaW.PrintWords Go.Proofs.YtelcaepenfjloaaW.PrintLast Go.Proofs.YtelcaepenfjloaaW.PrintMore
set_option linter.unusedVariables false
set_option linter.unusedSimpArgs false

theorem bits_or_comm (k : IntKind) (x y : Int) : Go.bits .or k x y = Go.bits .or k y x := by
  simp only [Go.bits, BitVec.or_comm]
theorem ref_rotr_7 (x : Int) : mosaicref01_rotr.f x 7 = some (rotrN x 7) := by
  have h := rotr_7 x
  unfold sha_rotr.f bits_RotateLeft32.f at h
  have e1 : Go.bits .and .u64 (IntKind.u64.wrap (wrap64 (-7))) 31 = 25 := by decide +kernel
  have e2 : IntKind.u64.wrap (32 - 25) = 7 := by decide +kernel
  have e3 : IntKind.u64.wrap (32 - 7) = 25 := by decide +kernel
  rw [e1, if_pos (by omega), e2, if_pos (by omega)] at h
  unfold mosaicref01_rotr.f
  rw [if_pos (by omega), e3, if_pos (by omega), bits_or_comm]
  exact h
theorem ref_rotr_18 (x : Int) : mosaicref01_rotr.f x 18 = some (rotrN x 18) := by
  have h := rotr_18 x
  unfold sha_rotr.f bits_RotateLeft32.f at h
  have e1 : Go.bits .and .u64 (IntKind.u64.wrap (wrap64 (-18))) 31 = 14 := by decide +kernel
  have e2 : IntKind.u64.wrap (32 - 14) = 18 := by decide +kernel
  have e3 : IntKind.u64.wrap (32 - 18) = 14 := by decide +kernel
  rw [e1, if_pos (by omega), e2, if_pos (by omega)] at h
  unfold mosaicref01_rotr.f
  rw [if_pos (by omega), e3, if_pos (by omega), bits_or_comm]
  exact h
theorem ref_rotr_17 (x : Int) : mosaicref01_rotr.f x 17 = some (rotrN x 17) := by
  have h := rotr_17 x
  unfold sha_rotr.f bits_RotateLeft32.f at h
  have e1 : Go.bits .and .u64 (IntKind.u64.wrap (wrap64 (-17))) 31 = 15 := by decide +kernel
  have e2 : IntKind.u64.wrap (32 - 15) = 17 := by decide +kernel
  have e3 : IntKind.u64.wrap (32 - 17) = 15 := by decide +kernel
  rw [e1, if_pos (by omega), e2, if_pos (by omega)] at h
  unfold mosaicref01_rotr.f
  rw [if_pos (by omega), e3, if_pos (by omega), bits_or_comm]
  exact h
theorem ref_rotr_19 (x : Int) : mosaicref01_rotr.f x 19 = some (rotrN x 19) := by
  have h := rotr_19 x
  unfold sha_rotr.f bits_RotateLeft32.f at h
  have e1 : Go.bits .and .u64 (IntKind.u64.wrap (wrap64 (-19))) 31 = 13 := by decide +kernel
  have e2 : IntKind.u64.wrap (32 - 13) = 19 := by decide +kernel
  have e3 : IntKind.u64.wrap (32 - 19) = 13 := by decide +kernel
  rw [e1, if_pos (by omega), e2, if_pos (by omega)] at h
  unfold mosaicref01_rotr.f
  rw [if_pos (by omega), e3, if_pos (by omega), bits_or_comm]
  exact h
theorem ref_rotr_6 (x : Int) : mosaicref01_rotr.f x 6 = some (rotrN x 6) := by
  have h := rotr_6 x
  unfold sha_rotr.f bits_RotateLeft32.f at h
  have e1 : Go.bits .and .u64 (IntKind.u64.wrap (wrap64 (-6))) 31 = 26 := by decide +kernel
  have e2 : IntKind.u64.wrap (32 - 26) = 6 := by decide +kernel
  have e3 : IntKind.u64.wrap (32 - 6) = 26 := by decide +kernel
  rw [e1, if_pos (by omega), e2, if_pos (by omega)] at h
  unfold mosaicref01_rotr.f
  rw [if_pos (by omega), e3, if_pos (by omega), bits_or_comm]
  exact h
theorem ref_rotr_11 (x : Int) : mosaicref01_rotr.f x 11 = some (rotrN x 11) := by
  have h := rotr_11 x
  unfold sha_rotr.f bits_RotateLeft32.f at h
  have e1 : Go.bits .and .u64 (IntKind.u64.wrap (wrap64 (-11))) 31 = 21 := by decide +kernel
  have e2 : IntKind.u64.wrap (32 - 21) = 11 := by decide +kernel
  have e3 : IntKind.u64.wrap (32 - 11) = 21 := by decide +kernel
  rw [e1, if_pos (by omega), e2, if_pos (by omega)] at h
  unfold mosaicref01_rotr.f
  rw [if_pos (by omega), e3, if_pos (by omega), bits_or_comm]
  exact h
theorem ref_rotr_25 (x : Int) : mosaicref01_rotr.f x 25 = some (rotrN x 25) := by
  have h := rotr_25 x
  unfold sha_rotr.f bits_RotateLeft32.f at h
  have e1 : Go.bits .and .u64 (IntKind.u64.wrap (wrap64 (-25))) 31 = 7 := by decide +kernel
  have e2 : IntKind.u64.wrap (32 - 7) = 25 := by decide +kernel
  have e3 : IntKind.u64.wrap (32 - 25) = 7 := by decide +kernel
  rw [e1, if_pos (by omega), e2, if_pos (by omega)] at h
  unfold mosaicref01_rotr.f
  rw [if_pos (by omega), e3, if_pos (by omega), bits_or_comm]
  exact h
theorem ref_rotr_2 (x : Int) : mosaicref01_rotr.f x 2 = some (rotrN x 2) := by
  have h := rotr_2 x
  unfold sha_rotr.f bits_RotateLeft32.f at h
  have e1 : Go.bits .and .u64 (IntKind.u64.wrap (wrap64 (-2))) 31 = 30 := by decide +kernel
  have e2 : IntKind.u64.wrap (32 - 30) = 2 := by decide +kernel
  have e3 : IntKind.u64.wrap (32 - 2) = 30 := by decide +kernel
  rw [e1, if_pos (by omega), e2, if_pos (by omega)] at h
  unfold mosaicref01_rotr.f
  rw [if_pos (by omega), e3, if_pos (by omega), bits_or_comm]
  exact h
theorem ref_rotr_13 (x : Int) : mosaicref01_rotr.f x 13 = some (rotrN x 13) := by
  have h := rotr_13 x
  unfold sha_rotr.f bits_RotateLeft32.f at h
  have e1 : Go.bits .and .u64 (IntKind.u64.wrap (wrap64 (-13))) 31 = 19 := by decide +kernel
  have e2 : IntKind.u64.wrap (32 - 19) = 13 := by decide +kernel
  have e3 : IntKind.u64.wrap (32 - 13) = 19 := by decide +kernel
  rw [e1, if_pos (by omega), e2, if_pos (by omega)] at h
  unfold mosaicref01_rotr.f
  rw [if_pos (by omega), e3, if_pos (by omega), bits_or_comm]
  exact h
theorem ref_rotr_22 (x : Int) : mosaicref01_rotr.f x 22 = some (rotrN x 22) := by
  have h := rotr_22 x
  unfold sha_rotr.f bits_RotateLeft32.f at h
  have e1 : Go.bits .and .u64 (IntKind.u64.wrap (wrap64 (-22))) 31 = 10 := by decide +kernel
  have e2 : IntKind.u64.wrap (32 - 10) = 22 := by decide +kernel
  have e3 : IntKind.u64.wrap (32 - 22) = 10 := by decide +kernel
  rw [e1, if_pos (by omega), e2, if_pos (by omega)] at h
  unfold mosaicref01_rotr.f
  rw [if_pos (by omega), e3, if_pos (by omega), bits_or_comm]
  exact h

theorem wraps_u32 (n : Int) (h₀ : 0 ≤ n) (h₁ : n < 2 ^ 32) : IntKind.u32.wrap n = n := by rw [IntKind.wrap_u32]; omega
theorem u32_or (i : Nat) (x y : Int) (hx₀ : 0 ≤ x) (hx : x % 2 ^ i = 0) (hx₁ : x < 2 ^ 32) (hy₀ : 0 ≤ y) (hy : y < 2 ^ i) (hi : y < 2 ^ 32) : Go.bits .or .u32 x y = x + y :=
  bits_join .u32 32 (by decide) wraps_u32 i x y hx₀ hx hx₁ hy₀ hy hi
/-- A word of a block. -/
theorem word_eq (b : ByteArray) (i : Nat) (h : 4 * i + 3 < b.size) (hb : b.size ≤ 9223372036854775807) :
    wordN (bytesOf b) (4 * (i : Int)) = ((((((((bt b (4 * (i : Int))) % 4294967296) * 16777216) % 4294967296) + ((((bt b (4 * (i : Int) + 1)) % 4294967296) * 65536) % 4294967296)) % 4294967296) + ((((bt b (4 * (i : Int) + 2)) % 4294967296) * 256) % 4294967296)) % 4294967296 + ((bt b (4 * (i : Int) + 3)) % 4294967296)) % 4294967296 := by
  have hw := word_some (bytesOf b) (4 * (i : Int)) (by omega) (by rw [bytesOf_length]; omega) (by rw [bytesOf_length]; exact hb)
  unfold sha_word.f at hw
  have hl := bytesOf_length b
  have e1 : wrap64 (4 * (i : Int) + 1) = 4 * (i : Int) + 1 := by unfold wrap64; omega
  have e2 : wrap64 (4 * (i : Int) + 2) = 4 * (i : Int) + 2 := by unfold wrap64; omega
  have e3 : wrap64 (4 * (i : Int) + 3) = 4 * (i : Int) + 3 := by unfold wrap64; omega
  rw [e1, e2, e3, hl, if_pos (by omega), if_pos (by omega), if_pos (by omega), if_pos (by omega), if_pos (by omega), if_pos (by omega), if_pos (by omega), if_pos (by omega)] at hw
  have hw := (Option.some.inj hw).symm
  rw [hw, rd_bytesOf, rd_bytesOf, rd_bytesOf, rd_bytesOf]
  have r0 := bt_range b (4 * (i : Int))
  have r1 := bt_range b (4 * (i : Int) + 1)
  have r2 := bt_range b (4 * (i : Int) + 2)
  have r3 := bt_range b (4 * (i : Int) + 3)
  generalize bt b (4 * (i : Int)) = x0 at r0 ⊢
  generalize bt b (4 * (i : Int) + 1) = x1 at r1 ⊢
  generalize bt b (4 * (i : Int) + 2) = x2 at r2 ⊢
  generalize bt b (4 * (i : Int) + 3) = x3 at r3 ⊢
  rw [u32_or 24 (x0 % 4294967296 * 16777216 % 4294967296) (x1 % 4294967296 * 65536 % 4294967296) (by omega) (by omega) (by omega) (by omega) (by omega) (by omega),
    u32_or 16 _ (x2 % 4294967296 * 256 % 4294967296) (by omega) (by omega) (by omega) (by omega) (by omega) (by omega),
    u32_or 8 _ (x3 % 4294967296) (by omega) (by omega) (by omega) (by omega) (by omega) (by omega)]
  omega

theorem getD_pad (y : List Int) (n i : Nat) (h : i < y.length) : (y ++ List.replicate n 0).getD i 0 = y.getD i 0 := by
  simp [List.getD_eq_getElem?_getD, List.getElem?_append_left h]
theorem set_pad (y : List Int) (n : Nat) (v : Int) : (y ++ List.replicate (n + 1) 0).set y.length v = (y ++ [v]) ++ List.replicate n 0 := by
  rw [List.set_append_right _ _ (Nat.le_refl _), Nat.sub_self, List.replicate_succ, List.set_cons_zero, List.append_assoc]
  rfl
theorem words_l1 (l : List Int) (d : Nat) : ∀ (y : List Int), 16 ≤ y.length → y.length + d = 64 → Ev (fun k => mosaicref01_Words.l1 k y (y.length : Int)) (schedL l d y.length (y ++ List.replicate d 0)) := by
  induction d with
  | zero =>
    intro y h0 h
    refine Ev.succ ?_
    simp only [mosaicref01_Words.l1, schedL]
    refine Ev.neg (by omega) (Ev.some_ (by simp))
  | succ d ih =>
    intro y h0 h
    refine Ev.succ ?_
    simp only [mosaicref01_Words.l1, schedL]
    have w15 : wrap64 ((y.length : Int) - 15) = ((y.length - 15 : Nat) : Int) := by unfold wrap64; omega
    have w2 : wrap64 ((y.length : Int) - 2) = ((y.length - 2 : Nat) : Int) := by unfold wrap64; omega
    have w7 : wrap64 ((y.length : Int) - 7) = ((y.length - 7 : Nat) : Int) := by unfold wrap64; omega
    have w16 : wrap64 ((y.length : Int) - 16) = ((y.length - 16 : Nat) : Int) := by unfold wrap64; omega
    rw [w15, w2, w7, w16, wrap_succ _ (by omega), ref_rotr_7, ref_rotr_18, ref_rotr_17, ref_rotr_19]
    simp only [Option.bind_some]
    refine Ev.pos (by omega) (Ev.pos (by omega) (Ev.pos (by omega) (Ev.pos (by omega) (Ev.pos (by omega) (Ev.pos (by omega) (Ev.pos (by omega) (Ev.pos (by omega) (Ev.pos (by omega) (Ev.pos (by omega) ?_)))))))))
    rw [set_pad, sdW_ge _ _ _ (by omega), getD_pad _ _ _ (by omega), getD_pad _ _ _ (by omega), getD_pad _ _ _ (by omega), getD_pad _ _ _ (by omega)]
    simp only [rd_nat]
    have key : ∀ v v' : Int, v = v' → Ev (fun k => mosaicref01_Words.l1 k (y ++ [v]) ((y.length + 1 : Nat) : Int)) (schedL l d (y.length + 1) ((y ++ [v']) ++ List.replicate d 0)) := by
      rintro v v' rfl
      have := ih (y ++ [v]) (by simp; omega) (by simp; omega)
      rw [List.length_append, List.length_singleton] at this
      exact this
    refine key _ _ ?_
    omega
theorem words_l0 (b : ByteArray) (hb : b.size = 64) (d : Nat) : ∀ (y : List Int), y.length + d = 16 → Ev (fun k => mosaicref01_Words.l0 k b y (y.length : Int)) (schedL (bytesOf b) (d + 48) y.length (y ++ List.replicate (d + 48) 0)) := by
  induction d with
  | zero =>
    intro y h
    refine Ev.succ ?_
    simp only [mosaicref01_Words.l0]
    refine Ev.neg (by omega) ?_
    have := words_l1 (bytesOf b) 48 y (by omega) (by omega)
    rw [show (y.length : Int) = 16 by omega] at this
    simpa using this
  | succ d ih =>
    intro y h
    refine Ev.succ ?_
    simp only [mosaicref01_Words.l0]
    have w0 : wrap64 (4 * (y.length : Int)) = 4 * (y.length : Int) := by unfold wrap64; omega
    have w1 : wrap64 (4 * (y.length : Int) + 1) = 4 * (y.length : Int) + 1 := by unfold wrap64; omega
    have w2 : wrap64 (4 * (y.length : Int) + 2) = 4 * (y.length : Int) + 2 := by unfold wrap64; omega
    have w3 : wrap64 (4 * (y.length : Int) + 3) = 4 * (y.length : Int) + 3 := by unfold wrap64; omega
    rw [w0, w1, w2, w3, wrap_succ _ (by omega)]
    refine Ev.pos (by omega) (Ev.pos (by omega) (Ev.pos (by omega) (Ev.pos (by omega) (Ev.pos (by omega) (Ev.pos (by omega) (Ev.pos (by omega) (Ev.pos (by omega) (Ev.pos (by omega) (Ev.pos (by omega) ?_)))))))))
    rw [show d + 1 + 48 = (d + 48) + 1 by omega, schedL, set_pad, sdW, if_pos (by omega), word_eq b y.length (by omega) (by omega)]
    have key : ∀ v : Int, Ev (fun k => mosaicref01_Words.l0 k b (y ++ [v]) ((y.length + 1 : Nat) : Int)) (schedL (bytesOf b) (d + 48) (y.length + 1) ((y ++ [v]) ++ List.replicate (d + 48) 0)) := by
      intro v
      have := ih (y ++ [v]) (by simp; omega)
      rw [List.length_append, List.length_singleton] at this
      exact this
    exact key _
theorem words_ev (b : ByteArray) (hb : b.size = 64) : Ev (fun k => mosaicref01_Words.f k b) (sched (bytesOf b)) := words_l0 b hb 16 [] rfl

theorem max_u32 : IntKind.u32.max = 4294967295 := by decide
theorem mix_l0 (st kk ww : List Int) (hs : st.length = 8) (hk : kk.length = 64) (hw : ww.length = 64) (d : Nat) : ∀ (t : Nat) (a b c e f g h i : Int), t + d = 64 →
    Ev (fun k => mosaicref01_Mix.l0 k st ww kk a b c e f g h i (t : Int)) (mixAdd st 8 0 (mixL kk ww d t [a, b, c, e, f, g, h, i])) := by
  induction d with
  | zero =>
    intro t a b c e f g h i ht
    obtain ⟨s0, s1, s2, s3, s4, s5, s6, s7, rfl⟩ := list8 st hs
    refine Ev.succ ?_
    simp only [mosaicref01_Mix.l0]
    refine Ev.neg (by omega) (Ev.pos (by simp) (Ev.pos (by simp) (Ev.pos (by simp) (Ev.pos (by simp) (Ev.pos (by simp) (Ev.pos (by simp) (Ev.pos (by simp) (Ev.pos (by simp) (Ev.some_ ?_)))))))))
    have : mixAdd [s0, s1, s2, s3, s4, s5, s6, s7] 8 0 (mixL kk ww 0 t [a, b, c, e, f, g, h, i]) = [(a + s0) % 4294967296, (b + s1) % 4294967296, (c + s2) % 4294967296, (e + s3) % 4294967296, (f + s4) % 4294967296, (g + s5) % 4294967296, (h + s6) % 4294967296, (i + s7) % 4294967296] := rfl
    rw [this]
    show [(s0 + a) % 4294967296, (s1 + b) % 4294967296, (s2 + c) % 4294967296, (s3 + e) % 4294967296, (s4 + f) % 4294967296, (s5 + g) % 4294967296, (s6 + h) % 4294967296, (s7 + i) % 4294967296] = _
    simp only [Int.add_comm]
  | succ d ih =>
    intro t a b c e f g h i ht
    refine Ev.succ ?_
    simp only [mosaicref01_Mix.l0]
    rw [ref_rotr_6, ref_rotr_11, ref_rotr_25, ref_rotr_2, ref_rotr_13, ref_rotr_22]
    simp only [Option.bind_some]
    refine Ev.pos (by omega) (Ev.pos (by omega) (Ev.pos (by omega) (Ev.pos (by omega) ?_)))
    rw [wrap_succ _ (by omega)]
    have key : ∀ x x' y y' : Int, x = x' → y = y' → Ev (fun k => mosaicref01_Mix.l0 k st ww kk x a b c y f g h ((t + 1 : Nat) : Int)) (mixAdd st 8 0 (mixL kk ww d (t + 1) [x', a, b, c, y', f, g, h])) := by
      rintro x _ y _ rfl rfl
      exact ih (t + 1) _ _ _ _ _ _ _ _ (by omega)
    rw [mixL, mixStep]
    refine key _ _ _ _ ?_ ?_
    · unfold s1N chN s0N majN
      rw [max_u32, rd_nat, rd_nat]
      omega
    · unfold s1N chN
      rw [max_u32, rd_nat, rd_nat]
      omega
theorem mix_ev (st : List Int) (b : ByteArray) (hs : st.length = 8) (hb : b.size = 64) : Ev (fun k => mosaicref01_Mix.f k st b) (mixB st (bytesOf b)) := by
  unfold mosaicref01_Mix.f
  refine Ev.bind (words_ev b hb) (Ev.call (show mosaicref01_K.f = some constK from rfl) ?_)
  have := mix_l0 st constK (sched (bytesOf b)) hs constK_len (sched_len _) 64 0 (rd st 0) (rd st 1) (rd st 2) (rd st 3) (rd st 4) (rd st 5) (rd st 6) (rd st 7) rfl
  refine Ev.pos (by omega) (Ev.pos (by omega) (Ev.pos (by omega) (Ev.pos (by omega) (Ev.pos (by omega) (Ev.pos (by omega) (Ev.pos (by omega) (Ev.pos (by omega) (this.to ?_))))))))
  obtain ⟨s0, s1, s2, s3, s4, s5, s6, s7, rfl⟩ := list8 st hs
  rfl

/-! ### The padding, the sum -/
theorem refpad_l0 (n : Int) (h0 : 0 ≤ n) (h1 : n ≤ 65536) (d : Nat) : ∀ j : Nat, ((119 - n % 64) % 64).toNat = j + d → Ev (fun k => mosaicref01_Pad.l0 k n ([128] ++ List.replicate j 0)) (padB n) := by
  induction d with
  | zero =>
    intro j hj
    refine Ev.succ ?_
    simp only [mosaicref01_Pad.l0]
    have hl : (([128] ++ List.replicate j (0 : Int)).length : Int) = 1 + j := by simp; omega
    have e1 : wrap64 (n + (1 + (j : Int))) = n + (1 + j) := by unfold wrap64; omega
    have e2 : wrap64 (n + (1 + (j : Int)) + 8) = n + (1 + j) + 8 := by unfold wrap64; omega
    have e3 : Int.tmod (n + (1 + (j : Int)) + 8) 64 = (n + (1 + j) + 8) % 64 := Int.tmod_eq_emod_of_nonneg (by omega)
    have e4 : wrap64 (8 * n) = 8 * n := by unfold wrap64; omega
    rw [hl, e1, e2, e3, e4]
    have q1 : Int.tdiv (8 * n) 16777216 = 8 * n / 16777216 := Int.tdiv_eq_ediv_of_nonneg (by omega)
    have q2 : Int.tdiv (8 * n) 65536 = 8 * n / 65536 := Int.tdiv_eq_ediv_of_nonneg (by omega)
    have q3 : Int.tdiv (8 * n) 256 = 8 * n / 256 := Int.tdiv_eq_ediv_of_nonneg (by omega)
    rw [q1, q2, q3]
    have u1 : wrap64 (8 * n / 16777216) = 8 * n / 16777216 := by unfold wrap64; omega
    have u2 : wrap64 (8 * n / 65536) = 8 * n / 65536 := by unfold wrap64; omega
    have u3 : wrap64 (8 * n / 256) = 8 * n / 256 := by unfold wrap64; omega
    rw [u1, u2, u3]
    have m1 : Int.tmod (8 * n / 65536) 256 = 8 * n / 65536 % 256 := Int.tmod_eq_emod_of_nonneg (by omega)
    have m2 : Int.tmod (8 * n / 256) 256 = 8 * n / 256 % 256 := Int.tmod_eq_emod_of_nonneg (by omega)
    have m3 : Int.tmod (8 * n) 256 = 8 * n % 256 := Int.tmod_eq_emod_of_nonneg (by omega)
    rw [m1, m2, m3]
    refine Ev.pos (by omega) (Ev.some_bind (Ev.pos (by simp; omega) (Ev.some_ ?_)))
    unfold padB padL
    rw [show ((119 - n % 64) % 64).toNat = j by omega]
    congr 1
    congr 1
    simp
  | succ d ih =>
    intro j hj
    refine Ev.succ ?_
    simp only [mosaicref01_Pad.l0]
    have hl : (([128] ++ List.replicate j (0 : Int)).length : Int) = 1 + j := by simp; omega
    have e1 : wrap64 (n + (1 + (j : Int))) = n + (1 + j) := by unfold wrap64; omega
    have e2 : wrap64 (n + (1 + (j : Int)) + 8) = n + (1 + j) + 8 := by unfold wrap64; omega
    have e3 : Int.tmod (n + (1 + (j : Int)) + 8) 64 = (n + (1 + j) + 8) % 64 := Int.tmod_eq_emod_of_nonneg (by omega)
    rw [hl, e1, e2, e3]
    refine Ev.neg (by omega) (Ev.pos (by simp; omega) ?_)
    have := ih (j + 1) (by omega)
    rw [List.replicate_succ', ← List.append_assoc] at this
    exact this
theorem refpad_ev (n : Int) (h0 : 0 ≤ n) (h1 : n ≤ 65536) : Ev (fun k => mosaicref01_Pad.f k n) (padB n) := by
  unfold mosaicref01_Pad.f
  refine Ev.neg (by omega) ?_
  rw [decide_eq_false (show ¬ n > 65536 by omega)]
  refine Ev.succ ?_
  simp only [mosaicref01_Pad.j0]
  exact Ev.neg (by simp) (refpad_l0 n h0 h1 _ 0 (Nat.zero_add _).symm)

theorem bytesOf_append (s t : ByteArray) : bytesOf (s ++ t) = bytesOf s ++ bytesOf t := by
  unfold bytesOf
  rw [ByteArray.data_append, Array.toList_append, List.map_append]
theorem bytesOf_extract (s : ByteArray) (a b : Nat) : bytesOf (s.extract a b) = ((bytesOf s).drop a).take (b - a) := by
  unfold bytesOf
  rw [ByteArray.data_extract, Array.toList_extract, List.map_take, List.map_drop]
theorem blocks_more : ∀ (k k' : Nat) (st l : List Int), l.length ≤ 64 * k → l.length ≤ 64 * k' → blocks k st l = blocks k' st l
  | 0, 0, _, _, _, _ => rfl
  | 0, k' + 1, st, l, h, _ => by rw [blocks, blocks, if_neg (by omega)]
  | k + 1, 0, st, l, _, h => by rw [blocks, blocks, if_neg (by omega)]
  | k + 1, k' + 1, st, l, h, h' => by
    rw [blocks, blocks, blocks_more k k' _ _ (by rw [List.length_drop]; omega) (by rw [List.length_drop]; omega)]
theorem hashGo_blocks : ∀ (k : Nat) (st p : List Int) (s : ByteArray) (pad : List Int) (K : Nat), s.size < k → p.length < 64 → pad.length ≤ 72 → p.length + s.size + pad.length ≤ 64 * K →
    blocks 3 (hashGo k st p s).1 ((hashGo k st p s).2 ++ pad) = blocks K st (p ++ bytesOf s ++ pad)
  | 0, st, p, s, pad, K, h, _, _, _ => by omega
  | k + 1, st, p, s, pad, K, h, hp, hd, hK => by
    have hl : (p ++ bytesOf (s.extract 0 (min (64 - p.length) s.size))).length = p.length + min (64 - p.length) s.size := by
      rw [List.length_append, bytesOf_length]
      simp
    have hs := bytesOf_length s
    rw [hashGo]
    by_cases c : (p ++ bytesOf (s.extract 0 (min (64 - p.length) s.size))).length = 64
    · rw [if_pos c]
      have h2 : (s.extract (min (64 - p.length) s.size) s.size).size = s.size - min (64 - p.length) s.size := by simp
      obtain ⟨K, rfl⟩ : ∃ m, K = m + 1 := ⟨K - 1, by omega⟩
      rw [hashGo_blocks k _ [] _ pad K (by omega) (by simp) hd (by simp only [List.length_nil]; omega)]
      have hm : min (64 - p.length) s.size = 64 - p.length := by omega
      rw [blocks, if_pos (by simp only [List.length_append]; omega)]
      rw [hm, bytesOf_extract, bytesOf_extract, List.drop_zero, Nat.sub_zero, List.nil_append]
      have e1 : ((bytesOf s).drop (64 - p.length)).take (s.size - (64 - p.length)) = (bytesOf s).drop (64 - p.length) := List.take_of_length_le (by rw [List.length_drop, hs]; omega)
      rw [e1]
      have e2 : (p ++ bytesOf s ++ pad).take 64 = p ++ (bytesOf s).take (64 - p.length) := by
        rw [List.append_assoc, List.take_append, List.take_of_length_le (by omega), List.take_append, show 64 - p.length - (bytesOf s).length = 0 by omega, List.take_zero, List.append_nil]
      have e3 : (p ++ bytesOf s ++ pad).drop 64 = (bytesOf s).drop (64 - p.length) ++ pad := by
        rw [List.append_assoc, List.drop_append, List.drop_of_length_le (by omega), List.nil_append, List.drop_append, show 64 - p.length - (bytesOf s).length = 0 by omega, List.drop_zero]
      rw [e2, e3]
    · rw [if_neg c]
      have hm : min (64 - p.length) s.size = s.size := by omega
      have e : bytesOf (s.extract 0 (min (64 - p.length) s.size)) = bytesOf s := by
        rw [hm, bytesOf_extract, List.drop_zero, Nat.sub_zero]
        exact List.take_of_length_le (by omega)
      rw [e]
      refine blocks_more _ _ _ _ ?_ ?_
      · simp only [List.length_append]
        omega
      · simp only [List.length_append]
        omega
theorem bytesOf_strOfNums (l : List Int) (h : ∀ x ∈ l, 0 ≤ x ∧ x ≤ 255) : bytesOf (strOfNums l) = l := by
  unfold bytesOf
  rw [strOfNums_data, List.map_map]
  conv => rhs; rw [← List.map_id l]
  refine List.map_congr_left fun x hx => ?_
  have := h x hx
  have e : (UInt8.ofNat x.toNat).toNat = x.toNat := UInt8.toNat_ofNat_of_lt' (by show x.toNat < 256; omega)
  simp only [Function.comp, e, id]
  omega
/-- The sum, block by block. -/
theorem shaSum_eq (s : ByteArray) (h : s.size ≤ 65536) (K : Nat) (hK : s.size + 72 ≤ 64 * K) : shaSum s = strOfNums (outB (blocks K startS (bytesOf s ++ padL s.size))) := by
  have hl := padL_length (s.size : Int) (by omega)
  unfold shaSum
  rw [padB, bytesOf_strOfNums _ (padL_range _), hashGo_blocks (s.size + 1) startS [] s (padL s.size) K (by omega) (by simp) (by omega) (by simp only [List.length_nil]; omega), List.nil_append]
theorem refsum_l1 (st acc : List Int) (hs : st.length = 8) (d : Nat) : ∀ (i : Nat) (acc : List Int), i + d = 8 → acc.length = 4 * i → Ev (fun k => mosaicref01_Sum.l1 k st acc (i : Int)) (strOfNums (acc ++ outB (st.drop i))) := by
  induction d with
  | zero =>
    intro i acc hi ha
    refine Ev.succ ?_
    simp only [mosaicref01_Sum.l1]
    refine Ev.neg (by omega) (Ev.some_ ?_)
    rw [List.drop_of_length_le (by omega)]
    simp [outB]
  | succ d ih =>
    intro i acc hi ha
    refine Ev.succ ?_
    simp only [mosaicref01_Sum.l1]
    refine Ev.pos (by omega) (Ev.pos (by omega) (Ev.some_bind (Ev.pos (by simp; omega) ?_)))
    rw [wrap_succ _ (by omega), outB_step st i (by omega), ← List.append_assoc, rd_nat]
    exact ih (i + 1) _ (by omega) (by simp; omega)
theorem refsum_l0 (t : ByteArray) (ht : t.size ≤ 100000) (d : Nat) : ∀ (st : List Int) (i : Nat), t.size = i + 64 * d → st.length = 8 → Ev (fun k => mosaicref01_Sum.l0 k t st (i : Int)) (strOfNums (outB (blocks d st ((bytesOf t).drop i)))) := by
  induction d with
  | zero =>
    intro st i hi hs
    refine Ev.succ ?_
    simp only [mosaicref01_Sum.l0, blocks]
    refine Ev.neg (by omega) ?_
    have := refsum_l1 st [] hs 8 0 [] rfl rfl
    simpa using this
  | succ d ih =>
    intro st i hi hs
    refine Ev.succ ?_
    simp only [mosaicref01_Sum.l0]
    have e1 : wrap64 ((i : Int) + 64) = ((i + 64 : Nat) : Int) := by unfold wrap64; omega
    have hl := bytesOf_length t
    rw [e1]
    refine Ev.pos (by omega) (Ev.pos (by omega) (Ev.pos (by omega) (Ev.pos (by omega) ?_)))
    have hx : (t.extract ((i : Int)).toNat (((i + 64 : Nat) : Int)).toNat).size = 64 := by simp; omega
    have hm := mix_ev st _ hs hx
    refine Ev.bind hm ?_
    have hb : bytesOf (t.extract ((i : Int)).toNat (((i + 64 : Nat) : Int)).toNat) = ((bytesOf t).drop i).take 64 := by
      rw [bytesOf_extract]
      congr 1
      omega
    rw [hb, blocks, if_pos (by rw [List.length_drop]; omega), List.drop_drop]
    exact ih _ (i + 64) (by omega) (mixB_len _ _ hs)
/-- The reference's sum is the program's. -/
theorem refsum_ev (s : ByteArray) (h : s.size ≤ 65536) : Ev (fun k => mosaicref01_Sum.f k s) (shaSum s) := by
  have hp := padB_size (s.size : Int) (by omega)
  have hz : (s ++ padB s.size).size = s.size + (padB s.size).size := by rw [ByteArray.size_append]
  unfold mosaicref01_Sum.f
  refine Ev.neg (by omega) (Ev.bind (refpad_ev _ (by omega) (by omega)) (Ev.pos (by omega) (Ev.call (show mosaicref01_Start.f = some startS from rfl) ?_)))
  have := refsum_l0 (s ++ padB s.size) (by omega) ((s ++ padB s.size).size / 64) startS 0 (by omega) rfl
  refine this.to ?_
  rw [shaSum_eq s h ((s.size + 72) / 64 + 1) (by omega), List.drop_zero, bytesOf_append, padB, bytesOf_strOfNums _ (padL_range _)]
  have hl := padL_length (s.size : Int) (by omega)
  have hb := bytesOf_length s
  congr 2
  refine blocks_more _ _ _ _ ?_ ?_
  · rw [List.length_append]
    rw [← padB, hz]
    omega
  · rw [List.length_append]
    omega
theorem outB_length (st : List Int) : (outB st).length = 4 * st.length := by
  induction st with
  | nil => rfl
  | cons a l ih => rw [outB, List.flatMap_cons, List.length_append, ← outB, ih]; simp; omega
theorem blocks_len : ∀ (k : Nat) (st l : List Int), st.length = 8 → (blocks k st l).length = 8
  | 0, _, _, h => h
  | k + 1, st, l, h => by
    rw [blocks]
    split
    · exact blocks_len k _ _ (mixB_len _ _ h)
    · exact h
theorem shaSum_size (s : ByteArray) : (shaSum s).size = 32 := by
  unfold shaSum
  rw [strOfNums_size, outB_length, blocks_len _ _ _ (hashGo_len _ _ _ _ (by omega) (by simp) rfl).1]
theorem sha_f (s : ByteArray) (h : s.size ≤ 65536) : sha_Sum.f s = some (shaSum s) := if_pos h
end Go.Proofs.Ytelcaepenfjloaa.Pure
/-! #### PureMer1 -/
/- Trees of sums in plain words: the levels' pairs come to the root that halves come to; paths and their lengths. -/
namespace Go.Proofs.Ytelcaepenfjloaa.Pure
open Go.RowKit Go.Proofs.Ytelcaepenfjloaa.Print Go.Proofs.YtelcaepenfjloaaW.PrintWords Go.Proofs.YtelcaepenfjloaaW.PrintLast Go.Proofs.YtelcaepenfjloaaW.PrintMore
set_option linter.unusedVariables false
set_option linter.unusedSimpArgs false

def leafT (s : ByteArray) : ByteArray := (⟨#[0]⟩ : ByteArray) ++ s
def knotT (l r : ByteArray) : ByteArray := ((⟨#[1]⟩ : ByteArray) ++ l) ++ r
def leafD (s : ByteArray) : ByteArray := shaSum (leafT s)
def knotD (l r : ByteArray) : ByteArray := shaSum (knotT l r)
theorem leafT_size (s : ByteArray) : (leafT s).size = 1 + s.size := by
  rw [leafT, ByteArray.size_append]
  rfl
theorem knotT_size (l r : ByteArray) : (knotT l r).size = 1 + l.size + r.size := by
  rw [knotT, ByteArray.size_append, ByteArray.size_append]
  rfl
theorem leafD_size (s : ByteArray) : (leafD s).size = 32 := shaSum_size _
theorem knotD_size (l r : ByteArray) : (knotD l r).size = 32 := shaSum_size _
theorem leaf_f (s : ByteArray) (h : s.size ≤ 65535) : merkle_Leaf.f s = some (leafD s) := by
  have hz := leafT_size s
  unfold merkle_Leaf.f
  rw [if_pos (by omega)]
  show (sha_Sum.f (leafT s)).bind _ = _
  rw [sha_f _ (by omega)]
  rfl
theorem knot_f (l r : ByteArray) (h : l.size + r.size ≤ 65535) : merkle_knot.f l r = some (knotT l r) := by
  have h1 : ((⟨#[1]⟩ : ByteArray) ++ l).size = 1 + l.size := by
    rw [ByteArray.size_append]
    rfl
  unfold merkle_knot.f
  rw [if_pos (by omega), if_pos (by omega)]
  rfl
theorem Knot_f (l r : ByteArray) (h : l.size + r.size ≤ 65535) : merkle_Knot.f l r = some (knotD l r) := by
  have hz := knotT_size l r
  unfold merkle_Knot.f
  rw [knot_f l r h]
  simp only [Option.bind_some]
  rw [sha_f _ (by omega)]
  rfl
theorem leafText_f (s : ByteArray) (h : s.size ≤ 65535) : mosaicref03_LeafText.f s = some (leafT s) := by
  unfold mosaicref03_LeafText.f
  rw [if_pos (by omega)]
  rfl
theorem knotText_f (l r : ByteArray) (h : l.size + r.size ≤ 65535) : mosaicref03_KnotText.f l r = some (knotT l r) := by
  have h1 : ((⟨#[1]⟩ : ByteArray) ++ l).size = 1 + l.size := by
    rw [ByteArray.size_append]
    rfl
  unfold mosaicref03_KnotText.f
  rw [if_pos (by omega), if_pos (by omega)]
  rfl

/-! ### Halves -/
def halfN (n : Nat) : Nat := 2 ^ (n - 1).log2
theorem halfN_lt (n : Nat) (h : 2 ≤ n) : halfN n < n := by
  have := Nat.log2_self_le (show n - 1 ≠ 0 by omega)
  unfold halfN
  omega
theorem halfN_pos (n : Nat) : 1 ≤ halfN n := Nat.one_le_two_pow
theorem halfN_ge (n : Nat) : n ≤ 2 * halfN n := by
  have := Nat.lt_log2_self (n := n - 1)
  rw [Nat.pow_succ] at this
  unfold halfN
  omega
theorem halfN_two (n : Nat) (h : 3 ≤ n) : halfN n = 2 * halfN ((n + 1) / 2) := by
  unfold halfN
  rw [show (n + 1) / 2 - 1 = (n - 1) / 2 by omega]
  conv => lhs; rw [Nat.log2_def, if_pos (by omega), Nat.pow_succ]
  omega
theorem half_l0 (n : Nat) (h : 2 ≤ n) (hn : n ≤ 100000) (d : Nat) : ∀ j : Nat, j + d = (n - 1).log2 → Ev (fun k => mosaicref03_half.l0 k (n : Int) ((2 ^ j : Nat) : Int)) ((halfN n : Nat) : Int) := by
  have hlt := halfN_lt n h
  have hge := halfN_ge n
  induction d with
  | zero =>
    intro j hj
    have e : halfN n = 2 ^ j := by unfold halfN; rw [← hj]; rfl
    refine Ev.succ ?_
    simp only [mosaicref03_half.l0]
    generalize 2 ^ j = x at e ⊢
    have w : wrap64 ((x : Int) * 2) = (x : Int) * 2 := by unfold wrap64; omega
    rw [w]
    exact Ev.neg (by omega) (Ev.some_ (by rw [e]))
  | succ d ih =>
    intro j hj
    have := ih (j + 1) (by omega)
    have hle : 2 ^ (j + 1) ≤ halfN n := Nat.pow_le_pow_right (by decide) (by omega)
    rw [Nat.pow_succ] at this hle
    refine Ev.succ ?_
    simp only [mosaicref03_half.l0]
    generalize 2 ^ j = x at this hle ⊢
    have w : wrap64 ((x : Int) * 2) = ((x * 2 : Nat) : Int) := by unfold wrap64; omega
    rw [w]
    exact Ev.pos (by omega) this
theorem half_ev (n : Nat) (h : 2 ≤ n) (hn : n ≤ 100000) : Ev (fun k => mosaicref03_half.f k (n : Int)) ((halfN n : Nat) : Int) := half_l0 n h hn _ 0 (Nat.zero_add _)

/-! ### Pairs -/
def pairsM : List ByteArray → List ByteArray
  | [] => []
  | [a] => [a]
  | a :: b :: l => knotD a b :: pairsM l
theorem pairsM_length : ∀ l : List ByteArray, (pairsM l).length = (l.length + 1) / 2
  | [] => by simp [pairsM]
  | [_] => by simp [pairsM]
  | _ :: _ :: l => by
    rw [pairsM, List.length_cons, pairsM_length l]
    simp
    omega
theorem pairsM_append : ∀ a b : List ByteArray, a.length % 2 = 0 → pairsM (a ++ b) = pairsM a ++ pairsM b
  | [], _, _ => rfl
  | [_], _, h => by simp at h
  | x :: y :: a, b, h => by
    show knotD x y :: pairsM (a ++ b) = _
    rw [pairsM_append a b (by simp at h; omega)]
    rfl
theorem pairsM_size : ∀ l : List ByteArray, (∀ x ∈ l, x.size = 32) → ∀ x ∈ pairsM l, x.size = 32
  | [], _, x, h => by simp [pairsM] at h
  | [a], h, x, hx => h x hx
  | a :: b :: l, h, x, hx => by
    rcases List.mem_cons.1 hx with rfl | hx
    · exact knotD_size _ _
    · exact pairsM_size l (fun y hy => h y (by simp [hy])) x hx

/-! ### The root, by halves -/
def topM (l : List ByteArray) : ByteArray :=
  if h : l.length ≤ 1 then l.headD ByteArray.empty
  else knotD (topM (l.take (halfN l.length))) (topM (l.drop (halfN l.length)))
termination_by l.length
decreasing_by
  · have := halfN_lt l.length (by omega)
    rw [List.length_take]
    omega
  · have := halfN_pos l.length
    rw [List.length_drop]
    omega
theorem topM_one (a : ByteArray) : topM [a] = a := by
  rw [topM]
  rfl
theorem topM_two (l : List ByteArray) (h : 2 ≤ l.length) : topM l = knotD (topM (l.take (halfN l.length))) (topM (l.drop (halfN l.length))) := by
  conv => lhs; rw [topM]
  rw [dif_neg (by omega)]
theorem list1 (l : List ByteArray) (h : l.length = 1) : ∃ a, l = [a] := by
  match l, h with
  | [a], _ => exact ⟨a, rfl⟩
theorem list2 (l : List ByteArray) (h : l.length = 2) : ∃ a b, l = [a, b] := by
  match l, h with
  | [a, b], _ => exact ⟨a, b, rfl⟩
theorem halfN_2 : halfN 2 = 1 := by decide
/-- A level's pairs, cut where the level is cut. -/
theorem pairs_cut (l : List ByteArray) (h : 3 ≤ l.length) : (pairsM l).take (halfN (pairsM l).length) = pairsM (l.take (halfN l.length)) ∧ (pairsM l).drop (halfN (pairsM l).length) = pairsM (l.drop (halfN l.length)) := by
  have h2 := halfN_two l.length h
  have hlt := halfN_lt l.length (by omega)
  have e : pairsM l = pairsM (l.take (halfN l.length)) ++ pairsM (l.drop (halfN l.length)) := by
    rw [← pairsM_append _ _ (by rw [List.length_take]; omega), List.take_append_drop]
  have hl : (pairsM (l.take (halfN l.length))).length = halfN (pairsM l).length := by
    rw [pairsM_length, pairsM_length, List.length_take]
    omega
  constructor
  · rw [← hl]
    conv => lhs; rw [e]
    exact List.take_left
  · rw [← hl]
    conv => lhs; rw [e]
    exact List.drop_left
theorem pairs_top (n : Nat) : ∀ l : List ByteArray, l.length = n → 1 ≤ n → topM (pairsM l) = topM l := by
  induction n using Nat.strongRecOn with
  | _ n ih =>
    intro l hl hn
    by_cases h1 : n = 1
    · obtain ⟨a, rfl⟩ := list1 l (by omega)
      rfl
    by_cases h2 : n = 2
    · obtain ⟨a, b, rfl⟩ := list2 l (by omega)
      rw [topM_two [a, b] (by simp)]
      show topM [knotD a b] = knotD (topM ([a, b].take (halfN 2))) (topM ([a, b].drop (halfN 2)))
      rw [halfN_2]
      show topM [knotD a b] = knotD (topM [a]) (topM [b])
      rw [topM_one, topM_one, topM_one]
    have hlt := halfN_lt l.length (by omega)
    have hps := halfN_pos l.length
    obtain ⟨e1, e2⟩ := pairs_cut l (by omega)
    rw [topM_two (pairsM l) (by rw [pairsM_length]; omega), e1, e2, ih (l.take (halfN l.length)).length (by rw [List.length_take]; omega) _ rfl (by rw [List.length_take]; omega),
      ih (l.drop (halfN l.length)).length (by rw [List.length_drop]; omega) _ rfl (by rw [List.length_drop]; omega), topM_two l (by omega)]

/-! ### The path of a leaf -/
def sib (i : Nat) : Nat := if i % 2 = 0 then i + 1 else i - 1
theorem sib_xor (i : Nat) (h : i < 256) : Go.bits .xor .i64 (i : Int) 1 = (sib i : Int) := by
  have : ∀ i : Fin 256, Go.bits .xor .i64 (i.val : Int) 1 = (sib i.val : Int) := by decide +kernel
  exact this ⟨i, h⟩
def wayM (l : List ByteArray) (i : Nat) : List ByteArray :=
  if h : l.length ≤ 1 then []
  else if i < halfN l.length then wayM (l.take (halfN l.length)) i ++ [topM (l.drop (halfN l.length))]
  else wayM (l.drop (halfN l.length)) (i - halfN l.length) ++ [topM (l.take (halfN l.length))]
termination_by l.length
decreasing_by
  · have := halfN_lt l.length (by omega)
    rw [List.length_take]
    omega
  · have := halfN_pos l.length
    rw [List.length_drop]
    omega
theorem wayM_one (a : ByteArray) (i : Nat) : wayM [a] i = [] := by
  rw [wayM]
  rfl
theorem wayM_left (l : List ByteArray) (i : Nat) (h : 2 ≤ l.length) (hi : i < halfN l.length) : wayM l i = wayM (l.take (halfN l.length)) i ++ [topM (l.drop (halfN l.length))] := by
  conv => lhs; rw [wayM]
  rw [dif_neg (by omega), if_pos hi]
theorem wayM_right (l : List ByteArray) (i : Nat) (h : 2 ≤ l.length) (hi : ¬ i < halfN l.length) : wayM l i = wayM (l.drop (halfN l.length)) (i - halfN l.length) ++ [topM (l.take (halfN l.length))] := by
  conv => lhs; rw [wayM]
  rw [dif_neg (by omega), if_neg hi]
def sibL (l : List ByteArray) (i : Nat) : List ByteArray := if sib i < l.length then [l.getD (sib i) ByteArray.empty] else []
theorem getD_take {α : Type} (l : List α) (k i : Nat) (d : α) (h : i < k) : (l.take k).getD i d = l.getD i d := by
  simp [List.getD_eq_getElem?_getD, List.getElem?_take, h]
theorem getD_drop {α : Type} (l : List α) (k i : Nat) (d : α) : (l.drop k).getD i d = l.getD (k + i) d := by
  simp [List.getD_eq_getElem?_getD, List.getElem?_drop]
theorem way_step (n : Nat) : ∀ (l : List ByteArray) (i : Nat), l.length = n → 2 ≤ n → i < n → wayM l i = sibL l i ++ wayM (pairsM l) (i / 2) := by
  induction n using Nat.strongRecOn with
  | _ n ih =>
    intro l i hl hn hi
    by_cases h2 : n = 2
    · obtain ⟨a, b, rfl⟩ := list2 l (by omega)
      have hh : halfN [a, b].length = 1 := halfN_2
      rcases (by omega : i = 0 ∨ i = 1) with rfl | rfl
      · rw [wayM_left _ _ (by simp) (by rw [hh]; omega), hh]
        show wayM [a] 0 ++ [topM [b]] = [b] ++ wayM [knotD a b] 0
        rw [wayM_one, wayM_one, topM_one]
        rfl
      · rw [wayM_right _ _ (by simp) (by rw [hh]; omega), hh]
        show wayM [b] 0 ++ [topM [a]] = [a] ++ wayM [knotD a b] 0
        rw [wayM_one, wayM_one, topM_one]
        rfl
    have hlt := halfN_lt l.length (by omega)
    have hps := halfN_pos l.length
    have hge := halfN_ge l.length
    have ht := halfN_two l.length (by omega)
    have hpl := pairsM_length l
    have hhp : halfN (pairsM l).length = halfN ((l.length + 1) / 2) := by rw [hpl]
    have hp1 := halfN_pos ((l.length + 1) / 2)
    obtain ⟨e1, e2⟩ := pairs_cut l (by omega)
    have hsib : sib i / 2 = i / 2 := by unfold sib; split <;> omega
    by_cases hc : i < halfN l.length
    · have hsk : sib i < halfN l.length := by unfold sib; split <;> omega
      rw [wayM_left l i (by omega) hc, wayM_left (pairsM l) (i / 2) (by omega) (by omega), e1, e2, pairs_top _ _ rfl (by rw [List.length_drop]; omega)]
      rw [ih (l.take (halfN l.length)).length (by rw [List.length_take]; omega) _ i rfl (by rw [List.length_take]; omega) (by rw [List.length_take]; omega), List.append_assoc]
      congr 1
      unfold sibL
      rw [List.length_take, if_pos (by omega), if_pos (by omega), getD_take _ _ _ _ hsk]
    · rw [wayM_right l i (by omega) hc, wayM_right (pairsM l) (i / 2) (by omega) (by omega), e1, e2, pairs_top _ _ rfl (by rw [List.length_take]; omega)]
      have hs : sib (i - halfN l.length) + halfN l.length = sib i := by
        unfold sib
        split
        · rw [if_pos (by omega)]
          omega
        · rw [if_neg (by omega)]
          omega
      by_cases h1 : (l.drop (halfN l.length)).length = 1
      · obtain ⟨a, ha⟩ := list1 _ h1
        rw [List.length_drop] at h1
        have e0 : i - halfN l.length = 0 := by omega
        have hd : i / 2 - halfN (pairsM l).length = 0 := by omega
        rw [ha, e0, hd]
        show wayM [a] 0 ++ _ = _ ++ (wayM [a] 0 ++ _)
        rw [wayM_one]
        have : sibL l i = [] := by
          unfold sibL
          rw [if_neg]
          have : sib 0 = 1 := rfl
          rw [e0, this] at hs
          omega
        rw [this]
        rfl
      · rw [List.length_drop] at h1
        rw [ih (l.drop (halfN l.length)).length (by rw [List.length_drop]; omega) _ (i - halfN l.length) rfl (by rw [List.length_drop]; omega) (by rw [List.length_drop]; omega), List.append_assoc]
        rw [show (i - halfN l.length) / 2 = i / 2 - halfN (pairsM l).length by omega]
        congr 1
        unfold sibL
        rw [List.length_drop, getD_drop, Nat.add_comm, hs]
        by_cases hz : sib i < l.length
        · rw [if_pos hz, if_pos (by omega)]
        · rw [if_neg hz, if_neg (by omega)]

/-! ### How long a path is -/
def depthM (n i : Nat) : Nat :=
  if h : n ≤ 1 then 0
  else if i < halfN n then depthM (halfN n) i + 1
  else depthM (n - halfN n) (i - halfN n) + 1
termination_by n
decreasing_by
  · exact halfN_lt n (by omega)
  · have := halfN_pos n
    omega
theorem depthM_one (n i : Nat) (h : n ≤ 1) : depthM n i = 0 := by
  rw [depthM, dif_pos h]
theorem depthM_left (n i : Nat) (h : 2 ≤ n) (hi : i < halfN n) : depthM n i = depthM (halfN n) i + 1 := by
  conv => lhs; rw [depthM]
  rw [dif_neg (by omega), if_pos hi]
theorem depthM_right (n i : Nat) (h : 2 ≤ n) (hi : ¬ i < halfN n) : depthM n i = depthM (n - halfN n) (i - halfN n) + 1 := by
  conv => lhs; rw [depthM]
  rw [dif_neg (by omega), if_neg hi]
theorem way_length (n : Nat) : ∀ (l : List ByteArray) (i : Nat), l.length = n → (wayM l i).length = depthM n i := by
  induction n using Nat.strongRecOn with
  | _ n ih =>
    intro l i hl
    by_cases h1 : n ≤ 1
    · rw [depthM_one n i h1, wayM, dif_pos (by omega)]
      rfl
    have hlt := halfN_lt l.length (by omega)
    have hps := halfN_pos l.length
    by_cases hc : i < halfN l.length
    · rw [wayM_left l i (by omega) hc, depthM_left n i (by omega) (by rw [← hl]; exact hc), List.length_append, ih (halfN n) (by rw [← hl]; omega) _ i (by rw [List.length_take, ← hl]; omega)]
      rfl
    · rw [wayM_right l i (by omega) hc, depthM_right n i (by omega) (by rw [← hl]; exact hc), List.length_append, ih (n - halfN n) (by rw [← hl]; omega) _ _ (by rw [List.length_drop, hl]), hl]
      rfl
theorem depth_step (n i : Nat) (h : 2 ≤ n) (hi : i < n) : depthM n i = (if sib i < n then 1 else 0) + depthM ((n + 1) / 2) (i / 2) := by
  have e := way_step n (List.replicate n ByteArray.empty) i (by simp) h hi
  have e2 := congrArg List.length e
  rw [List.length_append, way_length n _ i (by simp), way_length ((n + 1) / 2) _ (i / 2) (by rw [pairsM_length]; simp)] at e2
  rw [e2]
  congr 1
  unfold sibL
  rw [List.length_replicate]
  split <;> rfl
end Go.Proofs.Ytelcaepenfjloaa.Pure
/-! #### Pr94 -/
-- By the kit's print, called by a program of this session with functions that are proved by hand.
namespace Go.Proofs.Ytelcaepenfjloaa.Print
open Go.RowKit Go.Proofs.YtelcaepenfjloaaW.PrintWords Go.Proofs.YtelcaepenfjloaaW.PrintLast Go.Proofs.YtelcaepenfjloaaW.PrintMore
attribute [local go_sem] max2_int min2_int max_two min_two max_three min_three max_four min_four
set_option linter.unusedVariables false
set_option linter.unusedSimpArgs false

/-! ### mosaicref03_May: function 94 -/
def mosaicref03_May.l0 : Nat → List ByteArray → Int → Option (Int)
 | 0, _, _ => none
 | k + 1, x0, x3 => if x3 < (x0.length : Int) then (if 0 ≤ x3 then (if ((rdOf ByteArray.empty x0 x3).size : Int) > 1024 then (some 2) else (mosaicref03_May.l0 k x0 (wrap64 (x3 + 1)))) else (none)) else (some 0)
def mosaicref03_May.f (k : Nat) (l0 : List ByteArray) : Option (Int) := if (l0.length : Int) = 0 then (some 1) else (if (l0.length : Int) > 256 then (some 2) else (mosaicref03_May.l0 k l0 0))
theorem mosaicref03_May.mono_l : ∀ k, (∀ y0 y1, LeO (mosaicref03_May.l0 k y0 y1) (mosaicref03_May.l0 (k + 1) y0 y1))
 | 0 => fun _ _ r h => by simp [mosaicref03_May.l0] at h
 | k + 1 => by
  have ih0 := mosaicref03_May.mono_l k
  ·
   intro y0 y1
   unfold mosaicref03_May.l0
   repeat' first
   | (with_reducible exact ih0 _ _)
   | (with_reducible exact LeO.refl _)
   | (with_reducible exact LeO.none _)
   | (with_reducible refine LeO.ite ?_ ?_)
   | (with_reducible refine LeO.bind ?_ (fun _ => ?_))
   | exact ih0 _ _
   | exact LeO.none _
   | refine LeO.ite ?_ ?_
   | refine LeO.bind ?_ (fun _ => ?_)
theorem mosaicref03_May.mono : ∀ a0 k, LeO (mosaicref03_May.f k a0) (mosaicref03_May.f (k + 1) a0) := by
 intro a0 k
 have ih0 := mosaicref03_May.mono_l k
 unfold mosaicref03_May.f
 repeat' first
   | (with_reducible exact ih0 _ _)
   | (with_reducible exact LeO.refl _)
   | (with_reducible exact LeO.none _)
   | (with_reducible refine LeO.ite ?_ ?_)
   | (with_reducible refine LeO.bind ?_ (fun _ => ?_))
   | exact ih0 _ _
   | exact LeO.none _
   | refine LeO.ite ?_ ?_
   | refine LeO.bind ?_ (fun _ => ?_)
set_option maxHeartbeats 8000000 in
set_option maxRecDepth 100000 in
theorem mosaicref03_May.calls (k : Nat) (A0 : Option Addr) (c0 : Nat) (l0 : List ByteArray) (r : Int) (w : World) (hr0 : Kd.C Kd.string w A0 l0.length l0) (hc0 : l0.length ≤ c0) (h : mosaicref03_May.f k l0 = some r) :
  Calls Try.prog 94 #[.slice A0 l0.length c0] w fun e w' => e = .returned (.int .i64 r) ∧ Drawn0 w w' := by
 have HR0 := Aside0.mk hr0
 have HC0 := Aside0.mk hc0
 clear hr0 hc0
 have H : (if (l0.length : Int) = 0 then (some 1) else (if (l0.length : Int) > 256 then (some 2) else (mosaicref03_May.l0 k l0 0))) = some r := h
 clear h
 by_cases c2 : (l0.length : Int) = 0
 ·
  rw [if_pos c2] at H
  have c2b0 : ((l0.length : Int) == 0) = true := beq_iff_eq.mpr c2
  have c2b1 : ((l0.length : Int) != 0) = false := bne_eq_false_iff_eq.mpr c2
  clear c2
  obtain rfl := Option.some.inj H
  go_enter Try.func94, Try.ntmps94
  go_wp2
  go_ret
  exact ⟨by first | rfl | (simp; done) | (simp [*]; done), by repeat (first | exact Drawn0.refl _ | apply Drawn0.step)⟩
 ·
  rw [if_neg c2] at H
  have c2b0 : ((l0.length : Int) == 0) = false := beq_eq_false_iff_ne.mpr c2
  have c2b1 : ((l0.length : Int) != 0) = true := bne_iff_ne.mpr c2
  have c2b2 : ¬ (l0 = []) := fun h_ => c2 (by rw [h_]; rfl)
  by_cases c3 : (l0.length : Int) > 256
  ·
   rw [if_pos c3] at H
   have c3b0 : decide (256 < (l0.length : Int)) = true := decide_eq_true c3
   have c3b1 : decide (256 < l0.length) = true := decide_eq_true (by omega)
   clear c3
   obtain rfl := Option.some.inj H
   go_enter Try.func94, Try.ntmps94
   go_wp2
   go_ret
   exact ⟨by first | rfl | (simp; done) | (simp [*]; done), by repeat (first | exact Drawn0.refl _ | apply Drawn0.step)⟩
  ·
   rw [if_neg c3] at H
   have c3b0 : decide (256 < (l0.length : Int)) = false := decide_eq_false c3
   have c3b1 : decide (256 < l0.length) = false := decide_eq_false (by omega)
   clear c3
   have H' := Aside0.mk H
   clear H
   go_enter Try.func94, Try.ntmps94
   go_wp2
   go_loopg [3] k (fun kq v3 w' => ∃ (x3_1 : Int), v3 = .int .i64 x3_1 ∧ Aside0 (mosaicref03_May.l0 kq l0 x3_1 = some r) ∧ Aside0 (kq ≤ k) ∧ Drawn0 w w')
   case atStart => exact ⟨(0), (by first | rfl | (simp; done) | (simp [*]; done)), H', ⟨Nat.le_refl _⟩, by repeat (first | exact Drawn0.refl _ | apply Drawn0.step)⟩
   case round =>
    clear H'
    try clear c2
    try clear c2b0
    try clear c2b1
    try clear c2b2
    try clear p2
    try clear c3
    try clear c3b0
    try clear c3b1
    obtain ⟨x3_1, rfl, HA, HK1, ⟨m1, rfl⟩⟩ := hrel
    cases gk with
    | zero => exact absurd HA.out (by simp [mosaicref03_May.l0])
    | succ k1 =>
     have H := HA.out
     clear HA
     simp only [mosaicref03_May.l0] at H
     by_cases c4 : x3_1 < (l0.length : Int)
     ·
      rw [if_pos c4] at H
      have c4b0 : decide (x3_1 < (l0.length : Int)) = true := decide_eq_true c4
      clear c4
      by_cases c5 : 0 ≤ x3_1
      ·
       rw [if_pos c5] at H
       have c5b0 : decide (0 ≤ x3_1) = true := decide_eq_true c5
       clear c5
       by_cases c6 : ((rdOf ByteArray.empty l0 x3_1).size : Int) > 1024
       ·
        rw [if_pos c6] at H
        have c6b0 : decide (1024 < ((rdOf ByteArray.empty l0 x3_1).size : Int)) = true := decide_eq_true c6
        have c6b1 : decide (1024 < (rdOf ByteArray.empty l0 x3_1).size) = true := decide_eq_true (by omega)
        clear c6
        obtain rfl := Option.some.inj H
        have p304 : 0 ≤ (x3_1 : Int) := of_decide_eq_true (by first | (with_reducible assumption) | assumption)
        have q304 : x3_1 < (l0.length : Int) := of_decide_eq_true (by first | (with_reducible assumption) | assumption)
        obtain ⟨ad304, e304, hx304_0⟩ := Kd.at_string HR0.out x3_1 p304 q304
        cases e304
        replace p304 := eq_true p304
        replace q304 := eq_true q304
        go_wp2
        go_ret
        exact ⟨by first | rfl | (simp; done) | (simp [*]; done), by repeat (first | exact Drawn0.refl _ | apply Drawn0.step)⟩
       ·
        rw [if_neg c6] at H
        have c6b0 : decide (1024 < ((rdOf ByteArray.empty l0 x3_1).size : Int)) = false := decide_eq_false c6
        have c6b1 : decide (1024 < (rdOf ByteArray.empty l0 x3_1).size) = false := decide_eq_false (by omega)
        clear c6
        have H' := Aside0.mk H
        clear H
        have p304 : 0 ≤ (x3_1 : Int) := of_decide_eq_true (by first | (with_reducible assumption) | assumption)
        have q304 : x3_1 < (l0.length : Int) := of_decide_eq_true (by first | (with_reducible assumption) | assumption)
        obtain ⟨ad304, e304, hx304_0⟩ := Kd.at_string HR0.out x3_1 p304 q304
        cases e304
        replace p304 := eq_true p304
        replace q304 := eq_true q304
        go_wp2
        go_roundg k1
        case measure => have := HK1.out; omega
        case rel => exact ⟨(wrap64 (x3_1 + 1)), (by first | rfl | (simp; done) | (simp [*]; done)), H', ⟨by have := HK1.out; omega⟩, by repeat (first | exact Drawn0.refl _ | apply Drawn0.step)⟩
      ·
       rw [if_neg c5] at H
       exact absurd H (by simp)
     ·
      rw [if_neg c4] at H
      have c4b0 : decide (x3_1 < (l0.length : Int)) = false := decide_eq_false c4
      clear c4
      obtain rfl := Option.some.inj H
      go_wp2
      go_ret
      exact ⟨by first | rfl | (simp; done) | (simp [*]; done), by repeat (first | exact Drawn0.refl _ | apply Drawn0.step)⟩

end Go.Proofs.Ytelcaepenfjloaa.Print
/-! #### Pr95 -/
-- By the kit's print, called by a program of this session with functions that are proved by hand.
namespace Go.Proofs.Ytelcaepenfjloaa.Print
open Go.RowKit Go.Proofs.YtelcaepenfjloaaW.PrintWords Go.Proofs.YtelcaepenfjloaaW.PrintLast Go.Proofs.YtelcaepenfjloaaW.PrintMore
attribute [local go_sem] max2_int min2_int max_two min_two max_three min_three max_four min_four
set_option linter.unusedVariables false
set_option linter.unusedSimpArgs false

/-! ### mosaicref03_Top: function 95 -/
def mosaicref03_Top.f : Nat → List ByteArray → Option (ByteArray)
 | 0, _ => none
 | k + 1, l0 => if (l0.length : Int) = 1 then (if 0 < (l0.length : Int) then ((mosaicref03_LeafText.f (rdOf ByteArray.empty l0 0)).bind fun t306 => ((mosaicref01_Sum.f k t306).bind fun t307 => (some t307))) else (none)) else ((mosaicref03_half.f k (l0.length : Int)).bind fun t308 => (if 0 ≤ t308 then (if t308 ≤ (l0.length : Int) then ((mosaicref03_Top.f k (l0.take (t308 : Int).toNat)).bind fun t310 => ((mosaicref03_Top.f k (l0.drop (t308 : Int).toNat)).bind fun t312 => ((mosaicref03_KnotText.f t310 t312).bind fun t313 => ((mosaicref01_Sum.f k t313).bind fun t314 => (some t314))))) else (none)) else (none)))
theorem mosaicref03_Top.mono_l : ∀ k, (∀ y0, LeO (mosaicref03_Top.f k y0) (mosaicref03_Top.f (k + 1) y0))
 | 0 => fun _ r h => by simp [mosaicref03_Top.f] at h
 | k + 1 => by
  have ih0 := mosaicref03_Top.mono_l k
  ·
   intro y0
   unfold mosaicref03_Top.f
   repeat' first
   | (with_reducible exact ih0 _)
   | (with_reducible exact mosaicref01_Sum.mono _ _)
   | (with_reducible exact mosaicref03_half.mono _ _)
   | (with_reducible exact LeO.refl _)
   | (with_reducible exact LeO.none _)
   | (with_reducible refine LeO.ite ?_ ?_)
   | (with_reducible refine LeO.bind ?_ (fun _ => ?_))
   | exact ih0 _
   | exact mosaicref01_Sum.mono _ _
   | exact mosaicref03_half.mono _ _
   | exact LeO.none _
   | refine LeO.ite ?_ ?_
   | refine LeO.bind ?_ (fun _ => ?_)
theorem mosaicref03_Top.mono : ∀ a0 k, LeO (mosaicref03_Top.f k a0) (mosaicref03_Top.f (k + 1) a0) := by
 intro a0 k
 have ih0 := mosaicref03_Top.mono_l k
 exact ih0 a0
def mosaicref03_Top.T4 : Bool × List (List Nat × List Nat) := (true, [([], []), ([], []), ([0, 1], [0, 1]), ([2], [2]), ([], []), ([], []), ([4, 5], [4, 5]), ([6, 3], [6]), ([3, 7, 7], [3, 7]), ([8, 8], [8]), ([9, 9, 0, 1, 2, 3, 4, 5, 6, 7, 8, 9], [9])])
def mosaicref03_Top.B4 : List Nat := [0, 0, 3, 7, 0, 0, 48, 127, 255, 511, 1023]
theorem mosaicref03_Top.tab4 : rtab .any (opsOf Try.f95 4) = mosaicref03_Top.T4 := by kernel_rfl
theorem mosaicref03_Top.bits4 : waitsOk mosaicref03_Top.T4.2 mosaicref03_Top.B4 = true := by kernel_rfl
set_option maxHeartbeats 8000000 in
set_option maxRecDepth 100000 in
theorem mosaicref03_Top.calls (k : Nat) : ∀ (A0 : Option Addr) (c0 : Nat) (l0 : List ByteArray) (r : ByteArray) (w : World) (hr0 : Kd.C Kd.string w A0 l0.length l0) (hc0 : l0.length ≤ c0) (h : mosaicref03_Top.f k l0 = some r),
  Calls Try.prog 95 #[.slice A0 l0.length c0] w fun e w' => e = .returned (.string r) ∧ Below w.heap.size w w' := by
 induction k using Nat.strongRecOn with
 | _ k ih =>
 intro A0 c0 l0 r w hr0 hc0 h
 cases k with
 | zero => exact absurd h (by simp [mosaicref03_Top.f])
 | succ k =>
 simp only [mosaicref03_Top.f] at h
 have HR0 := Aside0.mk hr0
 have HC0 := Aside0.mk hc0
 clear hr0 hc0
 have HB := Aside0.mk (Below.refl w.heap.size w)
 have H : (if (l0.length : Int) = 1 then (if 0 < (l0.length : Int) then ((mosaicref03_LeafText.f (rdOf ByteArray.empty l0 0)).bind fun t306 => ((mosaicref01_Sum.f k t306).bind fun t307 => (some t307))) else (none)) else ((mosaicref03_half.f k (l0.length : Int)).bind fun t308 => (if 0 ≤ t308 then (if t308 ≤ (l0.length : Int) then ((mosaicref03_Top.f k (l0.take (t308 : Int).toNat)).bind fun t310 => ((mosaicref03_Top.f k (l0.drop (t308 : Int).toNat)).bind fun t312 => ((mosaicref03_KnotText.f t310 t312).bind fun t313 => ((mosaicref01_Sum.f k t313).bind fun t314 => (some t314))))) else (none)) else (none)))) = some r := h
 clear h
 by_cases c2 : (l0.length : Int) = 1
 ·
  rw [if_pos c2] at H
  have c2b0 : ((l0.length : Int) == 1) = true := beq_iff_eq.mpr c2
  have c2b1 : ((l0.length : Int) != 1) = false := bne_eq_false_iff_eq.mpr c2
  clear c2
  by_cases c3 : 0 < (l0.length : Int)
  ·
   rw [if_pos c3] at H
   have c3b0 : decide (0 < (l0.length : Int)) = true := decide_eq_true c3
   have c3b1 : decide (0 < l0.length) = true := decide_eq_true (by omega)
   clear c3
   replace H := Option.bind_eq_some_iff.mp H
   obtain ⟨t306, A40, H⟩ := H
   replace H : ((mosaicref01_Sum.f k t306).bind fun t307 => (some t307)) = some r := H
   have A4 := Aside0.mk A40
   clear A40
   replace H := Option.bind_eq_some_iff.mp H
   obtain ⟨t307, A50, H⟩ := H
   replace H : (some t307) = some r := H
   have A5 := Aside0.mk A50
   clear A50
   obtain rfl := Option.some.inj H
   have p305 : 0 ≤ (0 : Int) := (by omega)
   have q305 : 0 < (l0.length : Int) := of_decide_eq_true (by first | (with_reducible assumption) | assumption)
   obtain ⟨ad305, e305, hx305_0⟩ := Kd.at_string HR0.out 0 p305 q305
   cases e305
   have qi305 : (0 < l0.length) = True := eq_true (by omega)
   (try rw [show ((0 : Int)).toNat = 0 from rfl] at hx305_0)
   (try rw [Addr.add_zero'] at hx305_0)
   replace p305 := eq_true p305
   replace q305 := eq_true q305
   go_enter Try.func95, Try.ntmps95
   go_wp2_with (first | ((with_reducible refine gate_callee (f := 49) rfl ?_); refine goesL_ (some 10) rfl rfl Try.func49 (by kernel_rfl) rfl #[.string (rdOf ByteArray.empty l0 0)] rfl (by (try simp only [List.map_toArray, List.map_cons, List.map_nil]); first | done | rfl | (simp only [List.length_drop, List.length_take]; rfl)) ?_; (with_reducible refine (mosaicref03_LeafText.calls (rdOf ByteArray.empty l0 0) t306 _ A4.out).mono ?_); rintro e w' ⟨rfl, ⟨nd, rfl⟩⟩; refine ⟨_, rfl, ?_⟩) | ((with_reducible refine gate_callee (f := 27) rfl ?_); refine goesL_ (some 11) rfl rfl Try.func27 (by kernel_rfl) rfl #[.string t306] rfl (by (try simp only [List.map_toArray, List.map_cons, List.map_nil]); first | done | rfl | (simp only [List.length_drop, List.length_take]; rfl)) ?_; (with_reducible refine (mosaicref01_Sum.calls k t306 t307 _ A5.out).mono ?_); rintro e w6 ⟨rfl, hb⟩; refine ⟨_, rfl, ?_⟩; have n0_ := Aside0.mk (below_step (by repeat (first | (with_reducible first | exact HB.out | apply below_alloc | apply pw_below_drewN | apply below_drew1) | exact HB.out)) hb); clear HB; have HB := n0_; clear n0_; (try clear hb); (try clear hb2); (try clear hk); (try clear hi)))
   go_ret
   exact ⟨by first | rfl | (simp [errW_none, errW_some] <;> rfl) | (simp [*, errW_none, errW_some] <;> rfl), by repeat (first | (with_reducible first | exact HB.out | apply below_alloc | apply pw_below_drewN | apply below_drew1) | exact HB.out)⟩
  ·
   rw [if_neg c3] at H
   exact absurd H (by simp)
 ·
  rw [if_neg c2] at H
  have c2b0 : ((l0.length : Int) == 1) = false := beq_eq_false_iff_ne.mpr c2
  have c2b1 : ((l0.length : Int) != 1) = true := bne_iff_ne.mpr c2
  replace H := Option.bind_eq_some_iff.mp H
  obtain ⟨t308, A70, H⟩ := H
  replace H : (if 0 ≤ t308 then (if t308 ≤ (l0.length : Int) then ((mosaicref03_Top.f k (l0.take (t308 : Int).toNat)).bind fun t310 => ((mosaicref03_Top.f k (l0.drop (t308 : Int).toNat)).bind fun t312 => ((mosaicref03_KnotText.f t310 t312).bind fun t313 => ((mosaicref01_Sum.f k t313).bind fun t314 => (some t314))))) else (none)) else (none)) = some r := H
  have A7 := Aside0.mk A70
  clear A70
  by_cases c8 : 0 ≤ t308
  ·
   rw [if_pos c8] at H
   have c8b0 := eq_true c8
   have c8b1 : decide (0 ≤ t308) = true := decide_eq_true c8
   clear c8
   by_cases c9 : t308 ≤ (l0.length : Int)
   ·
    rw [if_pos c9] at H
    have c9b0 := eq_true c9
    have c9b1 : decide (t308 ≤ (l0.length : Int)) = true := decide_eq_true c9
    clear c9
    replace H := Option.bind_eq_some_iff.mp H
    obtain ⟨t310, A100, H⟩ := H
    replace H : ((mosaicref03_Top.f k (l0.drop (t308 : Int).toNat)).bind fun t312 => ((mosaicref03_KnotText.f t310 t312).bind fun t313 => ((mosaicref01_Sum.f k t313).bind fun t314 => (some t314)))) = some r := H
    have A10 := Aside0.mk A100
    clear A100
    have c11b0 := eq_true (of_decide_eq_true (by first | (with_reducible assumption) | assumption) : 0 ≤ t308)
    have c12b0 := eq_true (of_decide_eq_true (by first | (with_reducible assumption) | assumption) : t308 ≤ (l0.length : Int))
    replace H := Option.bind_eq_some_iff.mp H
    obtain ⟨t312, A130, H⟩ := H
    replace H : ((mosaicref03_KnotText.f t310 t312).bind fun t313 => ((mosaicref01_Sum.f k t313).bind fun t314 => (some t314))) = some r := H
    have A13 := Aside0.mk A130
    clear A130
    replace H := Option.bind_eq_some_iff.mp H
    obtain ⟨t313, A140, H⟩ := H
    replace H : ((mosaicref01_Sum.f k t313).bind fun t314 => (some t314)) = some r := H
    have A14 := Aside0.mk A140
    clear A140
    replace H := Option.bind_eq_some_iff.mp H
    obtain ⟨t314, A150, H⟩ := H
    replace H : (some t314) = some r := H
    have A15 := Aside0.mk A150
    clear A150
    obtain rfl := Option.some.inj H
    go_enter Try.func95, Try.ntmps95
    try go_wp2_with (first | ((with_reducible refine gate_callee (f := 99) rfl ?_); refine goesL_ (some 14) rfl rfl Try.func99 (by kernel_rfl) rfl #[.int .i64 (l0.length : Int)] rfl (by (try simp only [List.map_toArray, List.map_cons, List.map_nil]); first | done | rfl | (simp only [List.length_drop, List.length_take]; rfl)) ?_; (with_reducible refine (mosaicref03_half.calls k (l0.length : Int) t308 _ A7.out).mono ?_); rintro e w' ⟨rfl, ⟨nd, rfl⟩⟩; refine ⟨_, rfl, ?_⟩))
    have n0_ := Aside0.mk (below_drew1 (pw_below_drewN HB.out nd))
    clear HB
    have HB := n0_
    clear n0_
    obtain ⟨i017, hi017, _, hsz17, _⟩ := info_parts info9
    obtain ⟨hcut17, hA17, hC17⟩ := print_take_of (P := Try.prog) Value.string (⟨#[]⟩ : ByteArray) 39 9 .i64 Try.underlying39 hi017 hsz17 A0 c0 l0 t308 (of_decide_eq_true (by first | (with_reducible assumption) | assumption)) (of_decide_eq_true (by first | (with_reducible assumption) | assumption)) HC0.out
    have HR309 := Aside0.mk (Kd.C_of_reads (h1 := fun _ => rfl) (hA17 _ (Kd.reads_of_C HR0.out)))
    have HC309 := Aside0.mk hC17
    clear hA17 hC17 hi017 hsz17
    obtain ⟨i018, hi018, _, hsz18, _⟩ := info_parts info9
    obtain ⟨A18, hcut18, hA18, hC18⟩ := print_drop_of (P := Try.prog) Value.string (⟨#[]⟩ : ByteArray) 39 9 .i64 Try.underlying39 hi018 hsz18 A0 c0 l0 t308 (of_decide_eq_true (by first | (with_reducible assumption) | assumption)) (of_decide_eq_true (by first | (with_reducible assumption) | assumption)) HC0.out
    have HR311 := Aside0.mk (Kd.C_of_reads (h1 := fun _ => rfl) (hA18 _ (Kd.reads_of_C HR0.out)))
    have HC311 := Aside0.mk hC18
    clear hA18 hC18 hi018 hsz18
    refine start_ (n := 11) (S := fun w' => True) (ds := []) #[false, false, false, false, false, false, false, false, false, false, false] (by kernel_rfl) rfl rfl trivial (fun hHeld => ?_); refine with_tabW mosaicref03_Top.tab4 mosaicref03_Top.bits4 (fun HT_ HW_ => ?_)
    generalize (w.drewN nd).drew = w16 at HB HR309 HR311 hHeld ⊢
    refine pure_ (i := 0) (N := some 15) (v := ?_) (a' := ?_) #[true, false, false, false, false, false, false, false, false, false, false] rfl rfl (any_of HT_.out (by kernel_rfl)) (fun _ _ _ h => h) (Or.inl ⟨by rfl, ?_⟩) ?_ ?_
    rotate_left
    ·
     intro w'
     go_simp
     with_reducible rfl
    rotate_left
    ·
     simp only [Act.put, List.setIfInBounds_toArray, List.set_cons_zero, List.set_cons_succ, i64_w, i32_w]
     rfl
    refine pure_ (i := 1) (N := some 16) (v := ?_) (a' := ?_) #[true, true, false, false, false, false, false, false, false, false, false] rfl rfl (any_of HT_.out (by kernel_rfl)) (fun _ _ _ h => h) (Or.inl ⟨by rfl, ?_⟩) ?_ ?_
    rotate_left
    ·
     intro w'
     go_simp
     with_reducible rfl
    rotate_left
    ·
     simp only [Act.put, List.setIfInBounds_toArray, List.set_cons_zero, List.set_cons_succ, i64_w, i32_w]
     rfl
    refine pure_ (i := 2) (N := some 17) (v := ?_) (a' := ?_) #[true, true, true, false, false, false, false, false, false, false, false] rfl rfl (any_of HT_.out (by kernel_rfl)) (fun _ _ _ h => h) (Or.inl ⟨by rfl, ?_⟩) ?_ ?_
    rotate_left
    ·
     intro w'
     go_simp
     with_reducible rfl
    rotate_left
    ·
     simp only [Act.put, List.setIfInBounds_toArray, List.set_cons_zero, List.set_cons_succ, i64_w, i32_w]
     rfl
    refine pure_ (i := 4) (N := some 19) (v := ?_) (a' := ?_) #[true, true, true, false, true, false, false, false, false, false, false] rfl rfl (any_of HT_.out (by kernel_rfl)) (fun _ _ _ h => h) (Or.inl ⟨by rfl, ?_⟩) ?_ ?_
    rotate_left
    ·
     intro w'
     go_simp
     with_reducible rfl
    rotate_left
    ·
     simp only [Act.put, List.setIfInBounds_toArray, List.set_cons_zero, List.set_cons_succ, i64_w, i32_w]
     rfl
    refine pure_ (i := 5) (N := some 20) (v := ?_) (a' := ?_) #[true, true, true, false, true, true, false, false, false, false, false] rfl rfl (any_of HT_.out (by kernel_rfl)) (fun _ _ _ h => h) (Or.inl ⟨by rfl, ?_⟩) ?_ ?_
    rotate_left
    ·
     intro w'
     go_simp
     with_reducible rfl
    rotate_left
    ·
     simp only [Act.put, List.setIfInBounds_toArray, List.set_cons_zero, List.set_cons_succ, i64_w, i32_w]
     rfl
    refine pure_ (i := 6) (N := some 21) (v := ?_) (a' := ?_) #[true, true, true, false, true, true, true, false, false, false, false] rfl rfl (any_of HT_.out (by kernel_rfl)) (fun _ _ _ h => h) (Or.inl ⟨by rfl, ?_⟩) ?_ ?_
    rotate_left
    ·
     intro w'
     go_simp
     with_reducible rfl
    rotate_left
    ·
     simp only [Act.put, List.setIfInBounds_toArray, List.set_cons_zero, List.set_cons_succ, i64_w, i32_w]
     rfl
    refine one_ (i := 3) (N := some 18) #[true, true, true, true, true, true, true, false, false, false, false] rfl rfl (one_of HT_.out (by kernel_rfl)) (by decide) (fun K hK => ?_)
    refine goes_ Try.func95 (by kernel_rfl) rfl #[.slice A0 (l0.take (t308 : Int).toNat).length c0] (by rfl) rfl rfl (by (try simp only [List.map_toArray, List.map_cons, List.map_nil]); first | done | (rw [show (l0.take (t308 : Int).toNat).length = t308.toNat from (by rw [List.length_take]; have h_ : (t308 : Int) ≤ (l0.length : Int) := of_decide_eq_true (by first | (with_reducible assumption) | assumption); omega)] <;> rfl) | rfl | (simp only [List.length_drop, List.length_take]; rfl)) ?_
    with_reducible refine (ih k (by omega) _ _ (l0.take (t308 : Int).toNat) t310 _ ?side1 ?side2 A10.out).mono ?_
    (case side1 => repeat (first | exact (Kd.C_below HR309.out HB.out) | (with_reducible refine Kd.C_alloc ?_ _) | (with_reducible refine Kd.C_drewN ?_ _) | (with_reducible refine Kd.C_drew ?_)))
    (case side2 => exact HC309.out)
    rintro e w19 ⟨rfl, hb⟩
    refine ⟨_, rfl, ?_⟩
    have n0_ := Aside0.mk (below_step (by repeat (first | (with_reducible first | exact HB.out | apply below_alloc | apply pw_below_drewN | apply below_drew1) | exact HB.out)) hb)
    clear HB
    have HB := n0_
    clear n0_
    (try clear hb)
    (try clear hb2)
    (try clear hk)
    (try clear hi)
    refine hK.out _ _ trivial (fun hHeld => ?_)
    clear hK K
    refine norm_ (a' := ?_) ?_ ?_
    rotate_left
    ·
     show Act.put _ (some 18) _ = _
     simp only [Act.put, List.setIfInBounds_toArray, List.set_cons_zero, List.set_cons_succ, i64_w, i32_w]
     rfl
    refine one_ (i := 7) (N := some 22) #[true, true, true, true, true, true, true, true, false, false, false] rfl rfl (one_of HT_.out (by kernel_rfl)) (by decide) (fun K hK => ?_)
    refine goes_ Try.func95 (by kernel_rfl) rfl #[.slice A18 (l0.drop (t308 : Int).toNat).length (c0 - t308.toNat)] (by rfl) rfl rfl (by (try simp only [List.map_toArray, List.map_cons, List.map_nil]); first | done | (rw [show (l0.drop (t308 : Int).toNat).length = (l0.length - t308.toNat) from List.length_drop] <;> rfl) | rfl | (simp only [List.length_drop, List.length_take]; rfl)) ?_
    with_reducible refine (ih k (by omega) _ _ (l0.drop (t308 : Int).toNat) t312 _ ?side1 ?side2 A13.out).mono ?_
    (case side1 => repeat (first | exact (Kd.C_below HR311.out HB.out) | (with_reducible refine Kd.C_alloc ?_ _) | (with_reducible refine Kd.C_drewN ?_ _) | (with_reducible refine Kd.C_drew ?_)))
    (case side2 => exact HC311.out)
    rintro e w20 ⟨rfl, hb⟩
    refine ⟨_, rfl, ?_⟩
    have n0_ := Aside0.mk (below_step (by repeat (first | (with_reducible first | exact HB.out | apply below_alloc | apply pw_below_drewN | apply below_drew1) | exact HB.out)) hb)
    clear HB
    have HB := n0_
    clear n0_
    (try clear hb)
    (try clear hb2)
    (try clear hk)
    (try clear hi)
    refine hK.out _ _ trivial (fun hHeld => ?_)
    clear hK K
    refine norm_ (a' := ?_) ?_ ?_
    rotate_left
    ·
     show Act.put _ (some 22) _ = _
     simp only [Act.put, List.setIfInBounds_toArray, List.set_cons_zero, List.set_cons_succ, i64_w, i32_w]
     rfl
    refine one_ (i := 8) (N := some 23) #[true, true, true, true, true, true, true, true, true, false, false] rfl rfl (one_of HT_.out (by kernel_rfl)) (by decide) (fun K hK => ?_)
    refine goes_ Try.func51 (by kernel_rfl) rfl #[.string t310, .string t312] (by rfl) rfl rfl (by (try simp only [List.map_toArray, List.map_cons, List.map_nil]); first | done | rfl | (simp only [List.length_drop, List.length_take]; rfl)) ?_
    with_reducible refine (mosaicref03_KnotText.calls t310 t312 t313 _ A14.out).mono ?_
    rintro e w' ⟨rfl, ⟨nd, rfl⟩⟩
    refine ⟨_, rfl, ?_⟩
    refine hK.out _ _ trivial (fun hHeld => ?_)
    clear hK K
    refine norm_ (a' := ?_) ?_ ?_
    rotate_left
    ·
     show Act.put _ (some 23) _ = _
     simp only [Act.put, List.setIfInBounds_toArray, List.set_cons_zero, List.set_cons_succ, i64_w, i32_w]
     rfl
    refine one_ (i := 9) (N := some 24) #[true, true, true, true, true, true, true, true, true, true, false] rfl rfl (one_of HT_.out (by kernel_rfl)) (by decide) (fun K hK => ?_)
    refine goes_ Try.func27 (by kernel_rfl) rfl #[.string t313] (by rfl) rfl rfl (by (try simp only [List.map_toArray, List.map_cons, List.map_nil]); first | done | rfl | (simp only [List.length_drop, List.length_take]; rfl)) ?_
    with_reducible refine (mosaicref01_Sum.calls k t313 t314 _ A15.out).mono ?_
    rintro e w21 ⟨rfl, hb⟩
    refine ⟨_, rfl, ?_⟩
    have n0_ := Aside0.mk (below_step (by repeat (first | (with_reducible first | exact HB.out | apply below_alloc | apply pw_below_drewN | apply below_drew1) | exact HB.out)) hb)
    clear HB
    have HB := n0_
    clear n0_
    (try clear hb)
    (try clear hb2)
    (try clear hk)
    (try clear hi)
    refine hK.out _ _ trivial (fun hHeld => ?_)
    clear hK K
    refine norm_ (a' := ?_) ?_ ?_
    rotate_left
    ·
     show Act.put _ (some 24) _ = _
     simp only [Act.put, List.setIfInBounds_toArray, List.set_cons_zero, List.set_cons_succ, i64_w, i32_w]
     rfl
    refine pure_ (i := 10) (N := some 2) (v := ?_) (a' := ?_) #[true, true, true, true, true, true, true, true, true, true, true] rfl rfl (any_of HT_.out (by kernel_rfl)) (fun _ _ _ h => h) (Or.inl ⟨by rfl, ?_⟩) ?_ ?_
    rotate_left
    ·
     intro w'
     go_simp
     with_reducible rfl
    rotate_left
    ·
     simp only [Act.put, List.setIfInBounds_toArray, List.set_cons_zero, List.set_cons_succ, i64_w, i32_w]
     rfl
    refine done_ (done_of HT_.out (by kernel_rfl)) ?_
    try go_wp2
    go_ret
    exact ⟨by first | rfl | (simp [errW_none, errW_some] <;> rfl) | (simp [*, errW_none, errW_some] <;> rfl), by repeat (first | (with_reducible first | exact HB.out | apply below_alloc | apply pw_below_drewN | apply below_drew1) | exact HB.out)⟩
   ·
    rw [if_neg c9] at H
    exact absurd H (by simp)
  ·
   rw [if_neg c8] at H
   exact absurd H (by simp)

end Go.Proofs.Ytelcaepenfjloaa.Print
/-! #### Pr47 -/
-- By the kit's print, called by a program of this session with functions that are proved by hand.
namespace Go.Proofs.Ytelcaepenfjloaa.Print
open Go.RowKit Go.Proofs.YtelcaepenfjloaaW.PrintWords Go.Proofs.YtelcaepenfjloaaW.PrintLast Go.Proofs.YtelcaepenfjloaaW.PrintMore
attribute [local go_sem] max2_int min2_int max_two min_two max_three min_three max_four min_four
set_option linter.unusedVariables false
set_option linter.unusedSimpArgs false

/-! ### mosaicref03_Root: function 47 -/
def mosaicref03_Root.f (k : Nat) (l0 : List ByteArray) : Option (ByteArray × Int) := (mosaicref03_May.f k l0).bind fun t315 => (if t315 = 0 then ((mosaicref03_Top.f k l0).bind fun t316 => (some (t316, 0))) else (some ((⟨#[]⟩ : ByteArray), t315)))
theorem mosaicref03_Root.mono : ∀ a0 k, LeO (mosaicref03_Root.f k a0) (mosaicref03_Root.f (k + 1) a0) := by
 intro a0 k
 unfold mosaicref03_Root.f
 repeat' first
   | (with_reducible exact mosaicref03_May.mono _ _)
   | (with_reducible exact mosaicref03_Top.mono _ _)
   | (with_reducible exact LeO.refl _)
   | (with_reducible exact LeO.none _)
   | (with_reducible refine LeO.ite ?_ ?_)
   | (with_reducible refine LeO.bind ?_ (fun _ => ?_))
   | exact mosaicref03_May.mono _ _
   | exact mosaicref03_Top.mono _ _
   | exact LeO.none _
   | refine LeO.ite ?_ ?_
   | refine LeO.bind ?_ (fun _ => ?_)
set_option maxHeartbeats 8000000 in
set_option maxRecDepth 100000 in
theorem mosaicref03_Root.calls (k : Nat) (A0 : Option Addr) (c0 : Nat) (l0 : List ByteArray) (r1 : ByteArray) (r2 : Int) (w : World) (hr0 : Kd.C Kd.string w A0 l0.length l0) (hc0 : l0.length ≤ c0) (h : mosaicref03_Root.f k l0 = some (r1, r2)) :
  Calls Try.prog 47 #[.slice A0 l0.length c0] w fun e w' => e = .returned (.tuple #[.string r1, .int .i64 r2]) ∧ Below w.heap.size w w' := by
 have HR0 := Aside0.mk hr0
 have HC0 := Aside0.mk hc0
 clear hr0 hc0
 have HB := Aside0.mk (Below.refl w.heap.size w)
 have H : ((mosaicref03_May.f k l0).bind fun t315 => (if t315 = 0 then ((mosaicref03_Top.f k l0).bind fun t316 => (some (t316, 0))) else (some ((⟨#[]⟩ : ByteArray), t315)))) = some (r1, r2) := h
 clear h
 replace H := Option.bind_eq_some_iff.mp H
 obtain ⟨t315, A20, H⟩ := H
 replace H : (if t315 = 0 then ((mosaicref03_Top.f k l0).bind fun t316 => (some (t316, 0))) else (some ((⟨#[]⟩ : ByteArray), t315))) = some (r1, r2) := H
 have A2 := Aside0.mk A20
 clear A20
 by_cases c3 : t315 = 0
 ·
  rw [if_pos c3] at H
  have c3b0 : (t315 == 0) = true := beq_iff_eq.mpr c3
  have c3b1 : (t315 != 0) = false := bne_eq_false_iff_eq.mpr c3
  clear c3
  replace H := Option.bind_eq_some_iff.mp H
  obtain ⟨t316, A40, H⟩ := H
  replace H : (some (t316, 0)) = some (r1, r2) := H
  have A4 := Aside0.mk A40
  clear A40
  simp only [Option.some.injEq, Prod.mk.injEq] at H
  obtain ⟨rfl, rfl⟩ := H
  go_enter Try.func47, Try.ntmps47
  go_wp2_with (first | ((with_reducible refine gate_callee (f := 94) rfl ?_); refine goesL_ (some 6) rfl rfl Try.func94 (by kernel_rfl) rfl #[.slice A0 l0.length c0] rfl (by (try simp only [List.map_toArray, List.map_cons, List.map_nil]); first | done | rfl | (simp only [List.length_drop, List.length_take]; rfl)) ?_; (with_reducible refine (mosaicref03_May.calls k _ _ l0 t315 _ ?side1 ?side2 A2.out).mono ?_); (case side1 => repeat (first | exact HR0.out | (with_reducible refine Kd.C_alloc ?_ _) | (with_reducible refine Kd.C_drewN ?_ _) | (with_reducible refine Kd.C_drew ?_))); (case side2 => exact HC0.out); rintro e w' ⟨rfl, ⟨nd, rfl⟩⟩; refine ⟨_, rfl, ?_⟩) | ((with_reducible refine gate_callee (f := 95) rfl ?_); refine goesL_ (some 11) rfl rfl Try.func95 (by kernel_rfl) rfl #[.slice A0 l0.length c0] rfl (by (try simp only [List.map_toArray, List.map_cons, List.map_nil]); first | done | rfl | (simp only [List.length_drop, List.length_take]; rfl)) ?_; (with_reducible refine (mosaicref03_Top.calls k _ _ l0 t316 _ ?side1 ?side2 A4.out).mono ?_); (case side1 => repeat (first | exact HR0.out | (with_reducible refine Kd.C_alloc ?_ _) | (with_reducible refine Kd.C_drewN ?_ _) | (with_reducible refine Kd.C_drew ?_))); (case side2 => exact HC0.out); rintro e w5 ⟨rfl, hb⟩; refine ⟨_, rfl, ?_⟩; have n0_ := Aside0.mk (below_step (by repeat (first | (with_reducible first | exact HB.out | apply below_alloc | apply pw_below_drewN | apply below_drew1) | exact HB.out)) hb); clear HB; have HB := n0_; clear n0_; (try clear hb); (try clear hb2); (try clear hk); (try clear hi)))
  go_ret2
  exact ⟨by first | rfl | (simp [errW_none, errW_some] <;> rfl) | (simp [*, errW_none, errW_some] <;> rfl), by repeat (first | (with_reducible first | exact HB.out | apply below_alloc | apply pw_below_drewN | apply below_drew1) | exact HB.out)⟩
 ·
  rw [if_neg c3] at H
  have c3b0 : (t315 == 0) = false := beq_eq_false_iff_ne.mpr c3
  have c3b1 : (t315 != 0) = true := bne_iff_ne.mpr c3
  simp only [Option.some.injEq, Prod.mk.injEq] at H
  obtain ⟨rfl, rfl⟩ := H
  go_enter Try.func47, Try.ntmps47
  go_wp2_with (first | ((with_reducible refine gate_callee (f := 94) rfl ?_); refine goesL_ (some 6) rfl rfl Try.func94 (by kernel_rfl) rfl #[.slice A0 l0.length c0] rfl (by (try simp only [List.map_toArray, List.map_cons, List.map_nil]); first | done | rfl | (simp only [List.length_drop, List.length_take]; rfl)) ?_; (with_reducible refine (mosaicref03_May.calls k _ _ l0 t315 _ ?side1 ?side2 A2.out).mono ?_); (case side1 => repeat (first | exact HR0.out | (with_reducible refine Kd.C_alloc ?_ _) | (with_reducible refine Kd.C_drewN ?_ _) | (with_reducible refine Kd.C_drew ?_))); (case side2 => exact HC0.out); rintro e w' ⟨rfl, ⟨nd, rfl⟩⟩; refine ⟨_, rfl, ?_⟩))
  go_ret2
  exact ⟨by first | rfl | (simp [errW_none, errW_some] <;> rfl) | (simp [*, errW_none, errW_some] <;> rfl), by repeat (first | (with_reducible first | exact HB.out | apply below_alloc | apply pw_below_drewN | apply below_drew1) | exact HB.out)⟩

end Go.Proofs.Ytelcaepenfjloaa.Print
