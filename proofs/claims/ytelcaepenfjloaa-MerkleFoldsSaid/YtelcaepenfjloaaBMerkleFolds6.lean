/- The proof of the statement MerkleFolds of the seat, part 6 of 6: the functions that it reaches, as plain functions, with the walks that show it, and what they come to; the last part ends in the row. No condition beyond the statement's own. -/
import Derived.Test.YtelcaepenfjloaaRows
import Derived.WalkKit
import Derived.ProofKit
import Derived.OpenShut
import Derived.ShutString
import Derived.ChangeOld
import Derived.Below
import Derived.SizedLaws
import Derived.Carry
import Derived.Test.YtelcaepenfjloaaBMerkleFolds1
import Derived.Test.YtelcaepenfjloaaBMerkleFolds2
import Derived.Test.YtelcaepenfjloaaBMerkleFolds3
import Derived.Test.YtelcaepenfjloaaBMerkleFolds4
import Derived.Test.YtelcaepenfjloaaBMerkleFolds5
/-! #### Pr98 -/
-- By the kit's print, called by a program of this session with functions that are proved by hand.
namespace Go.Proofs.Ytelcaepenfjloaa.Print
open Go.RowKit Go.Proofs.YtelcaepenfjloaaW.PrintWords Go.Proofs.YtelcaepenfjloaaW.PrintLast Go.Proofs.YtelcaepenfjloaaW.PrintMore
attribute [local go_sem] max2_int min2_int max_two min_two max_three min_three max_four min_four
set_option linter.unusedVariables false
set_option linter.unusedSimpArgs false

/-! ### mosaicref03_way: function 98 -/
def mosaicref03_way.f : Nat → List ByteArray → Int → Option (List ByteArray)
 | 0, _, _ => none
 | k + 1, l0, a1 => if (l0.length : Int) = 1 then (some ([] : List ByteArray)) else ((mosaicref03_half.f k (l0.length : Int)).bind fun t336 => (if a1 < t336 then (if 0 ≤ t336 then (if t336 ≤ (l0.length : Int) then ((mosaicref03_way.f k (l0.take (t336 : Int).toNat) a1).bind fun t338 => ((mosaicref03_Top.f k (l0.drop (t336 : Int).toNat)).bind fun t342 => (if t338.length < 8796093022208 then (some (t338 ++ [t342])) else (none)))) else (none)) else (none)) else (if 0 ≤ t336 then (if t336 ≤ (l0.length : Int) then ((mosaicref03_way.f k (l0.drop (t336 : Int).toNat) (wrap64 (a1 - t336))).bind fun t347 => ((mosaicref03_Top.f k (l0.take (t336 : Int).toNat)).bind fun t351 => (if t347.length < 8796093022208 then (some (t347 ++ [t351])) else (none)))) else (none)) else (none))))
theorem mosaicref03_way.mono_l : ∀ k, (∀ y0 y1, LeO (mosaicref03_way.f k y0 y1) (mosaicref03_way.f (k + 1) y0 y1))
 | 0 => fun _ _ r h => by simp [mosaicref03_way.f] at h
 | k + 1 => by
  have ih0 := mosaicref03_way.mono_l k
  ·
   intro y0 y1
   unfold mosaicref03_way.f
   repeat' first
   | (with_reducible exact ih0 _ _)
   | (with_reducible exact mosaicref03_Top.mono _ _)
   | (with_reducible exact mosaicref03_half.mono _ _)
   | (with_reducible exact LeO.refl _)
   | (with_reducible exact LeO.none _)
   | (with_reducible refine LeO.ite ?_ ?_)
   | (with_reducible refine LeO.bind ?_ (fun _ => ?_))
   | exact ih0 _ _
   | exact mosaicref03_Top.mono _ _
   | exact mosaicref03_half.mono _ _
   | exact LeO.none _
   | refine LeO.ite ?_ ?_
   | refine LeO.bind ?_ (fun _ => ?_)
theorem mosaicref03_way.mono : ∀ a0 a1 k, LeO (mosaicref03_way.f k a0 a1) (mosaicref03_way.f (k + 1) a0 a1) := by
 intro a0 a1 k
 have ih0 := mosaicref03_way.mono_l k
 exact ih0 a0 a1
set_option maxHeartbeats 8000000 in
set_option maxRecDepth 100000 in
theorem mosaicref03_way.calls (k : Nat) : ∀ (A0 : Option Addr) (c0 : Nat) (l0 : List ByteArray) (a1 : Int) (r : List ByteArray) (w : World) (hr0 : Kd.C Kd.string w A0 l0.length l0) (hc0 : l0.length ≤ c0) (h : mosaicref03_way.f k l0 a1 = some r),
  Calls Try.prog 98 #[.slice A0 l0.length c0, .int .i64 a1] w fun e w' => ∃ v0_ : Value, e = .returned (v0_) ∧ Kd.R Kd.string 9 w' w.heap.size (fun _ => True) v0_ r ∧ Below w.heap.size w w' := by
 induction k using Nat.strongRecOn with
 | _ k ih =>
 intro A0 c0 l0 a1 r w hr0 hc0 h
 cases k with
 | zero => exact absurd h (by simp [mosaicref03_way.f])
 | succ k =>
 simp only [mosaicref03_way.f] at h
 have HR0 := Aside0.mk hr0
 have HC0 := Aside0.mk hc0
 clear hr0 hc0
 have HB := Aside0.mk (Below.refl w.heap.size w)
 have H : (if (l0.length : Int) = 1 then (some ([] : List ByteArray)) else ((mosaicref03_half.f k (l0.length : Int)).bind fun t336 => (if a1 < t336 then (if 0 ≤ t336 then (if t336 ≤ (l0.length : Int) then ((mosaicref03_way.f k (l0.take (t336 : Int).toNat) a1).bind fun t338 => ((mosaicref03_Top.f k (l0.drop (t336 : Int).toNat)).bind fun t342 => (if t338.length < 8796093022208 then (some (t338 ++ [t342])) else (none)))) else (none)) else (none)) else (if 0 ≤ t336 then (if t336 ≤ (l0.length : Int) then ((mosaicref03_way.f k (l0.drop (t336 : Int).toNat) (wrap64 (a1 - t336))).bind fun t347 => ((mosaicref03_Top.f k (l0.take (t336 : Int).toNat)).bind fun t351 => (if t347.length < 8796093022208 then (some (t347 ++ [t351])) else (none)))) else (none)) else (none))))) = some r := h
 clear h
 by_cases c3 : (l0.length : Int) = 1
 ·
  rw [if_pos c3] at H
  have c3b0 : ((l0.length : Int) == 1) = true := beq_iff_eq.mpr c3
  have c3b1 : ((l0.length : Int) != 1) = false := bne_eq_false_iff_eq.mpr c3
  clear c3
  obtain rfl := Option.some.inj H
  go_enter Try.func98, Try.ntmps98
  go_wp2
  go_ret
  exact ⟨_, by first | rfl | (simp [errW_none, errW_some] <;> rfl) | (simp [*, errW_none, errW_some] <;> rfl), by first | exact Kd.R_nil _ _ _ _ _ | exact Kd.N_nil _ _ _ _ _ | exact Kd.V_nil _ _ _ _ _ | exact Kd.Q_nil _ _ _ _ _ | exact Kd.S_nil _ _ _ _ _, by repeat (first | (with_reducible first | exact HB.out | apply below_alloc | apply pw_below_drewN | apply below_drew1) | exact HB.out)⟩
 ·
  rw [if_neg c3] at H
  have c3b0 : ((l0.length : Int) == 1) = false := beq_eq_false_iff_ne.mpr c3
  have c3b1 : ((l0.length : Int) != 1) = true := bne_iff_ne.mpr c3
  replace H := Option.bind_eq_some_iff.mp H
  obtain ⟨t336, A40, H⟩ := H
  replace H : (if a1 < t336 then (if 0 ≤ t336 then (if t336 ≤ (l0.length : Int) then ((mosaicref03_way.f k (l0.take (t336 : Int).toNat) a1).bind fun t338 => ((mosaicref03_Top.f k (l0.drop (t336 : Int).toNat)).bind fun t342 => (if t338.length < 8796093022208 then (some (t338 ++ [t342])) else (none)))) else (none)) else (none)) else (if 0 ≤ t336 then (if t336 ≤ (l0.length : Int) then ((mosaicref03_way.f k (l0.drop (t336 : Int).toNat) (wrap64 (a1 - t336))).bind fun t347 => ((mosaicref03_Top.f k (l0.take (t336 : Int).toNat)).bind fun t351 => (if t347.length < 8796093022208 then (some (t347 ++ [t351])) else (none)))) else (none)) else (none))) = some r := H
  have A4 := Aside0.mk A40
  clear A40
  by_cases c5 : a1 < t336
  ·
   rw [if_pos c5] at H
   have c5b0 : decide (a1 < t336) = true := decide_eq_true c5
   clear c5
   by_cases c6 : 0 ≤ t336
   ·
    rw [if_pos c6] at H
    have c6b0 := eq_true c6
    have c6b1 : decide (0 ≤ t336) = true := decide_eq_true c6
    clear c6
    by_cases c7 : t336 ≤ (l0.length : Int)
    ·
     rw [if_pos c7] at H
     have c7b0 := eq_true c7
     have c7b1 : decide (t336 ≤ (l0.length : Int)) = true := decide_eq_true c7
     clear c7
     replace H := Option.bind_eq_some_iff.mp H
     obtain ⟨t338, A80, H⟩ := H
     replace H : ((mosaicref03_Top.f k (l0.drop (t336 : Int).toNat)).bind fun t342 => (if t338.length < 8796093022208 then (some (t338 ++ [t342])) else (none))) = some r := H
     have A8 := Aside0.mk A80
     clear A80
     have c9b0 := eq_true (of_decide_eq_true (by first | (with_reducible assumption) | assumption) : 0 ≤ t336)
     have c10b0 := eq_true (of_decide_eq_true (by first | (with_reducible assumption) | assumption) : t336 ≤ (l0.length : Int))
     replace H := Option.bind_eq_some_iff.mp H
     obtain ⟨t342, A110, H⟩ := H
     replace H : (if t338.length < 8796093022208 then (some (t338 ++ [t342])) else (none)) = some r := H
     have A11 := Aside0.mk A110
     clear A110
     by_cases c12 : t338.length < 8796093022208
     ·
      rw [if_pos c12] at H
      have LMc12 := Aside0.mk c12
      clear c12
      obtain ⟨y343, hy343⟩ : ∃ y_ : List ByteArray, y_ = (t338 ++ [t342]) := ⟨_, rfl⟩
      replace H : (some y343) = some r := by first | (rw [hy343]; with_reducible exact H) | (have H2_ := (Option.bind_some _ _).symm.trans H; rw [hy343]; with_reducible exact H2_) | (have H2_ := (Option.bind_some _ _).symm.trans H; with_reducible exact H2_) | with_reducible exact H | (rw [hy343]; exact H) | exact H
      have Ny343 := Aside0.mk hy343
      clear hy343
      obtain rfl := Option.some.inj H
      go_enter Try.func98, Try.ntmps98
      go_wp2_with (first | ((with_reducible refine gate_callee (f := 99) rfl ?_); refine goesL_ (some 12) rfl rfl Try.func99 (by kernel_rfl) rfl #[.int .i64 (l0.length : Int)] rfl (by (try simp only [List.map_toArray, List.map_cons, List.map_nil]); first | done | rfl | (simp only [List.length_drop, List.length_take]; rfl)) ?_; (with_reducible refine (mosaicref03_half.calls k (l0.length : Int) t336 _ A4.out).mono ?_); rintro e w' ⟨rfl, ⟨nd, rfl⟩⟩; refine ⟨_, rfl, ?_⟩; obtain ⟨i013, hi013, _, hsz13, _⟩ := info_parts info9; obtain ⟨hcut13, hA13, hC13⟩ := print_take_of (P := Try.prog) Value.string (⟨#[]⟩ : ByteArray) 39 9 .i64 Try.underlying39 hi013 hsz13 A0 c0 l0 t336 (of_decide_eq_true (by first | (with_reducible assumption) | assumption)) (of_decide_eq_true (by first | (with_reducible assumption) | assumption)) HC0.out; have HR337 := Aside0.mk (Kd.C_of_reads (h1 := fun _ => rfl) (hA13 _ (Kd.reads_of_C HR0.out))); have HC337 := Aside0.mk hC13; clear hA13 hC13 hi013 hsz13) | ((with_reducible refine gate_callee (f := 98) rfl ?_); refine goesL_ (some 20) rfl rfl Try.func98 (by kernel_rfl) rfl #[.slice A0 (l0.take (t336 : Int).toNat).length c0, .int .i64 a1] rfl (by (try simp only [List.map_toArray, List.map_cons, List.map_nil]); first | done | (rw [show (l0.take (t336 : Int).toNat).length = t336.toNat from (by rw [List.length_take]; have h_ : (t336 : Int) ≤ (l0.length : Int) := of_decide_eq_true (by first | (with_reducible assumption) | assumption); omega)] <;> rfl) | rfl | (simp only [List.length_drop, List.length_take]; rfl)) ?_; (with_reducible refine (ih k (by omega) _ _ (l0.take (t336 : Int).toNat) a1 t338 _ ?side1 ?side2 A8.out).mono ?_); (case side1 => repeat (first | exact HR337.out | (with_reducible refine Kd.C_alloc ?_ _) | (with_reducible refine Kd.C_drewN ?_ _) | (with_reducible refine Kd.C_drew ?_))); (case side2 => exact HC337.out); rintro e w14 ⟨v339, rfl, ho0, hb⟩; refine ⟨_, rfl, ?_⟩; have n0_ := Aside0.mk (Kd.R_lower ho0 (below_size (by repeat (first | (with_reducible first | exact HB.out | apply below_alloc | apply pw_below_drewN | apply below_drew1) | exact HB.out)))); have n1_ := Aside0.mk (below_step (by repeat (first | (with_reducible first | exact HB.out | apply below_alloc | apply pw_below_drewN | apply below_drew1) | exact HB.out)) hb); clear HB; have HO340 := n0_; have HB := n1_; clear n0_ n1_; (try clear hb); (try clear hb2); (try clear hk); (try clear hi); (try clear ho0); obtain ⟨i015, hi015, _, hsz15, _⟩ := info_parts info9; obtain ⟨A15, hcut15, hA15, hC15⟩ := print_drop_of (P := Try.prog) Value.string (⟨#[]⟩ : ByteArray) 39 9 .i64 Try.underlying39 hi015 hsz15 A0 c0 l0 t336 (of_decide_eq_true (by first | (with_reducible assumption) | assumption)) (of_decide_eq_true (by first | (with_reducible assumption) | assumption)) HC0.out; have HR341 := Aside0.mk (Kd.C_of_reads (h1 := fun _ => rfl) (hA15 _ (Kd.reads_of_C HR0.out))); have HC341 := Aside0.mk hC15; clear hA15 hC15 hi015 hsz15) | ((with_reducible refine gate_callee (f := 95) rfl ?_); refine goesL_ (some 25) rfl rfl Try.func95 (by kernel_rfl) rfl #[.slice A15 (l0.drop (t336 : Int).toNat).length (c0 - t336.toNat)] rfl (by (try simp only [List.map_toArray, List.map_cons, List.map_nil]); first | done | (rw [show (l0.drop (t336 : Int).toNat).length = (l0.length - t336.toNat) from List.length_drop] <;> rfl) | rfl | (simp only [List.length_drop, List.length_take]; rfl)) ?_; (with_reducible refine (mosaicref03_Top.calls k _ _ (l0.drop (t336 : Int).toNat) t342 _ ?side1 ?side2 A11.out).mono ?_); (case side1 => repeat (first | exact (Kd.C_below HR341.out HB.out) | (with_reducible refine Kd.C_alloc ?_ _) | (with_reducible refine Kd.C_drewN ?_ _) | (with_reducible refine Kd.C_drew ?_))); (case side2 => exact HC341.out); rintro e w16 ⟨rfl, hb⟩; refine ⟨_, rfl, ?_⟩; have n0_ := Aside0.mk (Kd.R_below (by (with_reducible repeat (first | apply Kd.R_alloc | apply Kd.R_drewN | apply Kd.R_drew)); exact HO340.out) hb); have n1_ := Aside0.mk (below_step (by repeat (first | (with_reducible first | exact HB.out | apply below_alloc | apply pw_below_drewN | apply below_drew1) | exact HB.out)) hb); clear HO340; clear HB; have HO340 := n0_; have HB := n1_; clear n0_ n1_; (try clear hb); (try clear hb2); (try clear hk); (try clear hi)) | ((with_reducible refine gate_builtin (b := .append) (xs := #[.tmp 21, .tmp 26]) rfl ?_); at_builtin; refine Kd.R_append Kd.string (w0 := w) w.heap.size rfl (.tmp 21) (.tmp 26) 39 9 (.string ⟨#[]⟩) 16 rfl Try.underlying39 info9 rfl (by decide) (by omega) v339 t338 t342 [.string t342] (fun _ => True) (fun _ => False) rfl rfl ?aP (fun _ hk => hk.elim) ?aF ?aO ?aB ?aS ?aL ?_; (case aP => exact rfl); (case aB => exact (by repeat (first | (with_reducible first | exact HB.out | apply below_alloc | apply pw_below_drewN | apply below_drew1) | exact HB.out))); (case aF => exact (fun _ _ => trivial)); (case aO => exact (by (with_reducible repeat (first | apply Kd.R_alloc | apply Kd.R_drewN | apply Kd.R_drew)); exact HO340.out)); (case aS => exact (below_size (by repeat (first | (with_reducible first | exact HB.out | apply below_alloc | apply pw_below_drewN | apply below_drew1) | exact HB.out)))); (case aL => have := LMc12.out; omega); intro v344 w17 ho hb hg hat; rw [← Ny343.out] at ho; have n0_ := Aside0.mk (hb); have n1_ := Aside0.mk (ho); clear HB; clear HO340; have HB := n0_; have HO345 := n1_; clear n0_ n1_; clear ho hb hg hat))
      go_ret
      exact ⟨_, by first | rfl | (simp [errW_none, errW_some] <;> rfl) | (simp [*, errW_none, errW_some] <;> rfl), by (with_reducible repeat (first | apply Kd.R_alloc | apply Kd.R_drewN | apply Kd.R_drew)); exact HO345.out, by repeat (first | (with_reducible first | exact HB.out | apply below_alloc | apply pw_below_drewN | apply below_drew1) | exact HB.out)⟩
     ·
      rw [if_neg c12] at H
      exact absurd H (by simp)
    ·
     rw [if_neg c7] at H
     exact absurd H (by simp)
   ·
    rw [if_neg c6] at H
    exact absurd H (by simp)
  ·
   rw [if_neg c5] at H
   have c5b0 : decide (a1 < t336) = false := decide_eq_false c5
   clear c5
   by_cases c18 : 0 ≤ t336
   ·
    rw [if_pos c18] at H
    have c18b0 := eq_true c18
    have c18b1 : decide (0 ≤ t336) = true := decide_eq_true c18
    clear c18
    by_cases c19 : t336 ≤ (l0.length : Int)
    ·
     rw [if_pos c19] at H
     have c19b0 := eq_true c19
     have c19b1 : decide (t336 ≤ (l0.length : Int)) = true := decide_eq_true c19
     clear c19
     replace H := Option.bind_eq_some_iff.mp H
     obtain ⟨t347, A200, H⟩ := H
     replace H : ((mosaicref03_Top.f k (l0.take (t336 : Int).toNat)).bind fun t351 => (if t347.length < 8796093022208 then (some (t347 ++ [t351])) else (none))) = some r := H
     have A20 := Aside0.mk A200
     clear A200
     have c21b0 := eq_true (of_decide_eq_true (by first | (with_reducible assumption) | assumption) : 0 ≤ t336)
     have c22b0 := eq_true (of_decide_eq_true (by first | (with_reducible assumption) | assumption) : t336 ≤ (l0.length : Int))
     replace H := Option.bind_eq_some_iff.mp H
     obtain ⟨t351, A230, H⟩ := H
     replace H : (if t347.length < 8796093022208 then (some (t347 ++ [t351])) else (none)) = some r := H
     have A23 := Aside0.mk A230
     clear A230
     by_cases c24 : t347.length < 8796093022208
     ·
      rw [if_pos c24] at H
      have LMc24 := Aside0.mk c24
      clear c24
      obtain ⟨y352, hy352⟩ : ∃ y_ : List ByteArray, y_ = (t347 ++ [t351]) := ⟨_, rfl⟩
      replace H : (some y352) = some r := by first | (rw [hy352]; with_reducible exact H) | (have H2_ := (Option.bind_some _ _).symm.trans H; rw [hy352]; with_reducible exact H2_) | (have H2_ := (Option.bind_some _ _).symm.trans H; with_reducible exact H2_) | with_reducible exact H | (rw [hy352]; exact H) | exact H
      have Ny352 := Aside0.mk hy352
      clear hy352
      obtain rfl := Option.some.inj H
      go_enter Try.func98, Try.ntmps98
      go_wp2_with (first | ((with_reducible refine gate_callee (f := 99) rfl ?_); refine goesL_ (some 12) rfl rfl Try.func99 (by kernel_rfl) rfl #[.int .i64 (l0.length : Int)] rfl (by (try simp only [List.map_toArray, List.map_cons, List.map_nil]); first | done | rfl | (simp only [List.length_drop, List.length_take]; rfl)) ?_; (with_reducible refine (mosaicref03_half.calls k (l0.length : Int) t336 _ A4.out).mono ?_); rintro e w' ⟨rfl, ⟨nd, rfl⟩⟩; refine ⟨_, rfl, ?_⟩; obtain ⟨i025, hi025, _, hsz25, _⟩ := info_parts info9; obtain ⟨A25, hcut25, hA25, hC25⟩ := print_drop_of (P := Try.prog) Value.string (⟨#[]⟩ : ByteArray) 39 9 .i64 Try.underlying39 hi025 hsz25 A0 c0 l0 t336 (of_decide_eq_true (by first | (with_reducible assumption) | assumption)) (of_decide_eq_true (by first | (with_reducible assumption) | assumption)) HC0.out; have HR346 := Aside0.mk (Kd.C_of_reads (h1 := fun _ => rfl) (hA25 _ (Kd.reads_of_C HR0.out))); have HC346 := Aside0.mk hC25; clear hA25 hC25 hi025 hsz25) | ((with_reducible refine gate_callee (f := 98) rfl ?_); refine goesL_ (some 34) rfl rfl Try.func98 (by kernel_rfl) rfl #[.slice A25 (l0.drop (t336 : Int).toNat).length (c0 - t336.toNat), .int .i64 (wrap64 (a1 - t336))] rfl (by (try simp only [List.map_toArray, List.map_cons, List.map_nil]); first | done | (rw [show (l0.drop (t336 : Int).toNat).length = (l0.length - t336.toNat) from List.length_drop] <;> rfl) | rfl | (simp only [List.length_drop, List.length_take]; rfl)) ?_; (with_reducible refine (ih k (by omega) _ _ (l0.drop (t336 : Int).toNat) (wrap64 (a1 - t336)) t347 _ ?side1 ?side2 A20.out).mono ?_); (case side1 => repeat (first | exact HR346.out | (with_reducible refine Kd.C_alloc ?_ _) | (with_reducible refine Kd.C_drewN ?_ _) | (with_reducible refine Kd.C_drew ?_))); (case side2 => exact HC346.out); rintro e w26 ⟨v348, rfl, ho0, hb⟩; refine ⟨_, rfl, ?_⟩; have n0_ := Aside0.mk (Kd.R_lower ho0 (below_size (by repeat (first | (with_reducible first | exact HB.out | apply below_alloc | apply pw_below_drewN | apply below_drew1) | exact HB.out)))); have n1_ := Aside0.mk (below_step (by repeat (first | (with_reducible first | exact HB.out | apply below_alloc | apply pw_below_drewN | apply below_drew1) | exact HB.out)) hb); clear HB; have HO349 := n0_; have HB := n1_; clear n0_ n1_; (try clear hb); (try clear hb2); (try clear hk); (try clear hi); (try clear ho0); obtain ⟨i027, hi027, _, hsz27, _⟩ := info_parts info9; obtain ⟨hcut27, hA27, hC27⟩ := print_take_of (P := Try.prog) Value.string (⟨#[]⟩ : ByteArray) 39 9 .i64 Try.underlying39 hi027 hsz27 A0 c0 l0 t336 (of_decide_eq_true (by first | (with_reducible assumption) | assumption)) (of_decide_eq_true (by first | (with_reducible assumption) | assumption)) HC0.out; have HR350 := Aside0.mk (Kd.C_of_reads (h1 := fun _ => rfl) (hA27 _ (Kd.reads_of_C HR0.out))); have HC350 := Aside0.mk hC27; clear hA27 hC27 hi027 hsz27) | ((with_reducible refine gate_callee (f := 95) rfl ?_); refine goesL_ (some 39) rfl rfl Try.func95 (by kernel_rfl) rfl #[.slice A0 (l0.take (t336 : Int).toNat).length c0] rfl (by (try simp only [List.map_toArray, List.map_cons, List.map_nil]); first | done | (rw [show (l0.take (t336 : Int).toNat).length = t336.toNat from (by rw [List.length_take]; have h_ : (t336 : Int) ≤ (l0.length : Int) := of_decide_eq_true (by first | (with_reducible assumption) | assumption); omega)] <;> rfl) | rfl | (simp only [List.length_drop, List.length_take]; rfl)) ?_; (with_reducible refine (mosaicref03_Top.calls k _ _ (l0.take (t336 : Int).toNat) t351 _ ?side1 ?side2 A23.out).mono ?_); (case side1 => repeat (first | exact (Kd.C_below HR350.out HB.out) | (with_reducible refine Kd.C_alloc ?_ _) | (with_reducible refine Kd.C_drewN ?_ _) | (with_reducible refine Kd.C_drew ?_))); (case side2 => exact HC350.out); rintro e w28 ⟨rfl, hb⟩; refine ⟨_, rfl, ?_⟩; have n0_ := Aside0.mk (Kd.R_below (by (with_reducible repeat (first | apply Kd.R_alloc | apply Kd.R_drewN | apply Kd.R_drew)); exact HO349.out) hb); have n1_ := Aside0.mk (below_step (by repeat (first | (with_reducible first | exact HB.out | apply below_alloc | apply pw_below_drewN | apply below_drew1) | exact HB.out)) hb); clear HO349; clear HB; have HO349 := n0_; have HB := n1_; clear n0_ n1_; (try clear hb); (try clear hb2); (try clear hk); (try clear hi)) | ((with_reducible refine gate_builtin (b := .append) (xs := #[.tmp 35, .tmp 40]) rfl ?_); at_builtin; refine Kd.R_append Kd.string (w0 := w) w.heap.size rfl (.tmp 35) (.tmp 40) 39 9 (.string ⟨#[]⟩) 16 rfl Try.underlying39 info9 rfl (by decide) (by omega) v348 t347 t351 [.string t351] (fun _ => True) (fun _ => False) rfl rfl ?aP (fun _ hk => hk.elim) ?aF ?aO ?aB ?aS ?aL ?_; (case aP => exact rfl); (case aB => exact (by repeat (first | (with_reducible first | exact HB.out | apply below_alloc | apply pw_below_drewN | apply below_drew1) | exact HB.out))); (case aF => exact (fun _ _ => trivial)); (case aO => exact (by (with_reducible repeat (first | apply Kd.R_alloc | apply Kd.R_drewN | apply Kd.R_drew)); exact HO349.out)); (case aS => exact (below_size (by repeat (first | (with_reducible first | exact HB.out | apply below_alloc | apply pw_below_drewN | apply below_drew1) | exact HB.out)))); (case aL => have := LMc24.out; omega); intro v353 w29 ho hb hg hat; rw [← Ny352.out] at ho; have n0_ := Aside0.mk (hb); have n1_ := Aside0.mk (ho); clear HB; clear HO349; have HB := n0_; have HO354 := n1_; clear n0_ n1_; clear ho hb hg hat))
      go_ret
      exact ⟨_, by first | rfl | (simp [errW_none, errW_some] <;> rfl) | (simp [*, errW_none, errW_some] <;> rfl), by (with_reducible repeat (first | apply Kd.R_alloc | apply Kd.R_drewN | apply Kd.R_drew)); exact HO354.out, by repeat (first | (with_reducible first | exact HB.out | apply below_alloc | apply pw_below_drewN | apply below_drew1) | exact HB.out)⟩
     ·
      rw [if_neg c24] at H
      exact absurd H (by simp)
    ·
     rw [if_neg c19] at H
     exact absurd H (by simp)
   ·
    rw [if_neg c18] at H
    exact absurd H (by simp)

end Go.Proofs.Ytelcaepenfjloaa.Print
/-! #### Pr53 -/
-- By the kit's print, called by a program of this session with functions that are proved by hand.
namespace Go.Proofs.Ytelcaepenfjloaa.Print
open Go.RowKit Go.Proofs.YtelcaepenfjloaaW.PrintWords Go.Proofs.YtelcaepenfjloaaW.PrintLast Go.Proofs.YtelcaepenfjloaaW.PrintMore
attribute [local go_sem] max2_int min2_int max_two min_two max_three min_three max_four min_four
set_option linter.unusedVariables false
set_option linter.unusedSimpArgs false

/-! ### mosaicref03_Path: function 53 -/
def mosaicref03_Path.f (k : Nat) (l0 : List ByteArray) (a1 : Int) : Option (List ByteArray × Int) := (mosaicref03_May.f k l0).bind fun t355 => (if t355 = 0 then (if a1 < 0 then (some (([] : List ByteArray), 1)) else (if a1 ≥ (l0.length : Int) then (some (([] : List ByteArray), 1)) else ((mosaicref03_way.f k l0 a1).bind fun t356 => (some (t356, 0))))) else (some (([] : List ByteArray), t355)))
theorem mosaicref03_Path.mono : ∀ a0 a1 k, LeO (mosaicref03_Path.f k a0 a1) (mosaicref03_Path.f (k + 1) a0 a1) := by
 intro a0 a1 k
 unfold mosaicref03_Path.f
 repeat' first
   | (with_reducible exact mosaicref03_May.mono _ _)
   | (with_reducible exact mosaicref03_way.mono _ _ _)
   | (with_reducible exact LeO.refl _)
   | (with_reducible exact LeO.none _)
   | (with_reducible refine LeO.ite ?_ ?_)
   | (with_reducible refine LeO.bind ?_ (fun _ => ?_))
   | exact mosaicref03_May.mono _ _
   | exact mosaicref03_way.mono _ _ _
   | exact LeO.none _
   | refine LeO.ite ?_ ?_
   | refine LeO.bind ?_ (fun _ => ?_)
set_option maxHeartbeats 8000000 in
set_option maxRecDepth 100000 in
theorem mosaicref03_Path.calls (k : Nat) (A0 : Option Addr) (c0 : Nat) (l0 : List ByteArray) (a1 : Int) (r1 : List ByteArray) (r2 : Int) (w : World) (hr0 : Kd.C Kd.string w A0 l0.length l0) (hc0 : l0.length ≤ c0) (h : mosaicref03_Path.f k l0 a1 = some (r1, r2)) :
  Calls Try.prog 53 #[.slice A0 l0.length c0, .int .i64 a1] w fun e w' => ∃ v0_ : Value, e = .returned (.tuple #[v0_, .int .i64 r2]) ∧ Kd.R Kd.string 9 w' w.heap.size (fun _ => True) v0_ r1 ∧ Below w.heap.size w w' := by
 have HR0 := Aside0.mk hr0
 have HC0 := Aside0.mk hc0
 clear hr0 hc0
 have HB := Aside0.mk (Below.refl w.heap.size w)
 have H : ((mosaicref03_May.f k l0).bind fun t355 => (if t355 = 0 then (if a1 < 0 then (some (([] : List ByteArray), 1)) else (if a1 ≥ (l0.length : Int) then (some (([] : List ByteArray), 1)) else ((mosaicref03_way.f k l0 a1).bind fun t356 => (some (t356, 0))))) else (some (([] : List ByteArray), t355)))) = some (r1, r2) := h
 clear h
 replace H := Option.bind_eq_some_iff.mp H
 obtain ⟨t355, A30, H⟩ := H
 replace H : (if t355 = 0 then (if a1 < 0 then (some (([] : List ByteArray), 1)) else (if a1 ≥ (l0.length : Int) then (some (([] : List ByteArray), 1)) else ((mosaicref03_way.f k l0 a1).bind fun t356 => (some (t356, 0))))) else (some (([] : List ByteArray), t355))) = some (r1, r2) := H
 have A3 := Aside0.mk A30
 clear A30
 by_cases c4 : t355 = 0
 ·
  rw [if_pos c4] at H
  have c4b0 : (t355 == 0) = true := beq_iff_eq.mpr c4
  have c4b1 : (t355 != 0) = false := bne_eq_false_iff_eq.mpr c4
  clear c4
  by_cases c5 : a1 < 0
  ·
   rw [if_pos c5] at H
   have c5b0 : decide (a1 < 0) = true := decide_eq_true c5
   clear c5
   simp only [Option.some.injEq, Prod.mk.injEq] at H
   obtain ⟨rfl, rfl⟩ := H
   go_enter Try.func53, Try.ntmps53
   go_wp2_with (first | ((with_reducible refine gate_callee (f := 94) rfl ?_); refine goesL_ (some 8) rfl rfl Try.func94 (by kernel_rfl) rfl #[.slice A0 l0.length c0] rfl (by (try simp only [List.map_toArray, List.map_cons, List.map_nil]); first | done | rfl | (simp only [List.length_drop, List.length_take]; rfl)) ?_; (with_reducible refine (mosaicref03_May.calls k _ _ l0 t355 _ ?side1 ?side2 A3.out).mono ?_); (case side1 => repeat (first | exact HR0.out | (with_reducible refine Kd.C_alloc ?_ _) | (with_reducible refine Kd.C_drewN ?_ _) | (with_reducible refine Kd.C_drew ?_))); (case side2 => exact HC0.out); rintro e w' ⟨rfl, ⟨nd, rfl⟩⟩; refine ⟨_, rfl, ?_⟩))
   go_ret2
   exact ⟨_, by first | rfl | (simp [errW_none, errW_some] <;> rfl) | (simp [*, errW_none, errW_some] <;> rfl), by first | exact Kd.R_nil _ _ _ _ _ | exact Kd.N_nil _ _ _ _ _ | exact Kd.V_nil _ _ _ _ _ | exact Kd.Q_nil _ _ _ _ _ | exact Kd.S_nil _ _ _ _ _, by repeat (first | (with_reducible first | exact HB.out | apply below_alloc | apply pw_below_drewN | apply below_drew1) | exact HB.out)⟩
  ·
   rw [if_neg c5] at H
   have c5b0 : decide (a1 < 0) = false := decide_eq_false c5
   clear c5
   by_cases c6 : a1 ≥ (l0.length : Int)
   ·
    rw [if_pos c6] at H
    have c6b0 : decide ((l0.length : Int) ≤ a1) = true := decide_eq_true c6
    clear c6
    simp only [Option.some.injEq, Prod.mk.injEq] at H
    obtain ⟨rfl, rfl⟩ := H
    go_enter Try.func53, Try.ntmps53
    go_wp2_with (first | ((with_reducible refine gate_callee (f := 94) rfl ?_); refine goesL_ (some 8) rfl rfl Try.func94 (by kernel_rfl) rfl #[.slice A0 l0.length c0] rfl (by (try simp only [List.map_toArray, List.map_cons, List.map_nil]); first | done | rfl | (simp only [List.length_drop, List.length_take]; rfl)) ?_; (with_reducible refine (mosaicref03_May.calls k _ _ l0 t355 _ ?side1 ?side2 A3.out).mono ?_); (case side1 => repeat (first | exact HR0.out | (with_reducible refine Kd.C_alloc ?_ _) | (with_reducible refine Kd.C_drewN ?_ _) | (with_reducible refine Kd.C_drew ?_))); (case side2 => exact HC0.out); rintro e w' ⟨rfl, ⟨nd, rfl⟩⟩; refine ⟨_, rfl, ?_⟩))
    go_ret2
    exact ⟨_, by first | rfl | (simp [errW_none, errW_some] <;> rfl) | (simp [*, errW_none, errW_some] <;> rfl), by first | exact Kd.R_nil _ _ _ _ _ | exact Kd.N_nil _ _ _ _ _ | exact Kd.V_nil _ _ _ _ _ | exact Kd.Q_nil _ _ _ _ _ | exact Kd.S_nil _ _ _ _ _, by repeat (first | (with_reducible first | exact HB.out | apply below_alloc | apply pw_below_drewN | apply below_drew1) | exact HB.out)⟩
   ·
    rw [if_neg c6] at H
    have c6b0 : decide ((l0.length : Int) ≤ a1) = false := decide_eq_false c6
    clear c6
    replace H := Option.bind_eq_some_iff.mp H
    obtain ⟨t356, A70, H⟩ := H
    replace H : (some (t356, 0)) = some (r1, r2) := H
    have A7 := Aside0.mk A70
    clear A70
    simp only [Option.some.injEq, Prod.mk.injEq] at H
    obtain ⟨rfl, rfl⟩ := H
    go_enter Try.func53, Try.ntmps53
    go_wp2_with (first | ((with_reducible refine gate_callee (f := 94) rfl ?_); refine goesL_ (some 8) rfl rfl Try.func94 (by kernel_rfl) rfl #[.slice A0 l0.length c0] rfl (by (try simp only [List.map_toArray, List.map_cons, List.map_nil]); first | done | rfl | (simp only [List.length_drop, List.length_take]; rfl)) ?_; (with_reducible refine (mosaicref03_May.calls k _ _ l0 t355 _ ?side1 ?side2 A3.out).mono ?_); (case side1 => repeat (first | exact HR0.out | (with_reducible refine Kd.C_alloc ?_ _) | (with_reducible refine Kd.C_drewN ?_ _) | (with_reducible refine Kd.C_drew ?_))); (case side2 => exact HC0.out); rintro e w' ⟨rfl, ⟨nd, rfl⟩⟩; refine ⟨_, rfl, ?_⟩) | ((with_reducible refine gate_callee (f := 98) rfl ?_); refine goesL_ (some 22) rfl rfl Try.func98 (by kernel_rfl) rfl #[.slice A0 l0.length c0, .int .i64 a1] rfl (by (try simp only [List.map_toArray, List.map_cons, List.map_nil]); first | done | rfl | (simp only [List.length_drop, List.length_take]; rfl)) ?_; (with_reducible refine (mosaicref03_way.calls k _ _ l0 a1 t356 _ ?side1 ?side2 A7.out).mono ?_); (case side1 => repeat (first | exact HR0.out | (with_reducible refine Kd.C_alloc ?_ _) | (with_reducible refine Kd.C_drewN ?_ _) | (with_reducible refine Kd.C_drew ?_))); (case side2 => exact HC0.out); rintro e w8 ⟨v357, rfl, ho0, hb⟩; refine ⟨_, rfl, ?_⟩; have n0_ := Aside0.mk (Kd.R_lower ho0 (below_size (by repeat (first | (with_reducible first | exact HB.out | apply below_alloc | apply pw_below_drewN | apply below_drew1) | exact HB.out)))); have n1_ := Aside0.mk (below_step (by repeat (first | (with_reducible first | exact HB.out | apply below_alloc | apply pw_below_drewN | apply below_drew1) | exact HB.out)) hb); clear HB; have HO358 := n0_; have HB := n1_; clear n0_ n1_; (try clear hb); (try clear hb2); (try clear hk); (try clear hi); (try clear ho0)))
    go_ret2
    exact ⟨_, by first | rfl | (simp [errW_none, errW_some] <;> rfl) | (simp [*, errW_none, errW_some] <;> rfl), by (with_reducible repeat (first | apply Kd.R_alloc | apply Kd.R_drewN | apply Kd.R_drew)); exact HO358.out, by repeat (first | (with_reducible first | exact HB.out | apply below_alloc | apply pw_below_drewN | apply below_drew1) | exact HB.out)⟩
 ·
  rw [if_neg c4] at H
  have c4b0 : (t355 == 0) = false := beq_eq_false_iff_ne.mpr c4
  have c4b1 : (t355 != 0) = true := bne_iff_ne.mpr c4
  simp only [Option.some.injEq, Prod.mk.injEq] at H
  obtain ⟨rfl, rfl⟩ := H
  go_enter Try.func53, Try.ntmps53
  go_wp2_with (first | ((with_reducible refine gate_callee (f := 94) rfl ?_); refine goesL_ (some 8) rfl rfl Try.func94 (by kernel_rfl) rfl #[.slice A0 l0.length c0] rfl (by (try simp only [List.map_toArray, List.map_cons, List.map_nil]); first | done | rfl | (simp only [List.length_drop, List.length_take]; rfl)) ?_; (with_reducible refine (mosaicref03_May.calls k _ _ l0 t355 _ ?side1 ?side2 A3.out).mono ?_); (case side1 => repeat (first | exact HR0.out | (with_reducible refine Kd.C_alloc ?_ _) | (with_reducible refine Kd.C_drewN ?_ _) | (with_reducible refine Kd.C_drew ?_))); (case side2 => exact HC0.out); rintro e w' ⟨rfl, ⟨nd, rfl⟩⟩; refine ⟨_, rfl, ?_⟩))
  go_ret2
  exact ⟨_, by first | rfl | (simp [errW_none, errW_some] <;> rfl) | (simp [*, errW_none, errW_some] <;> rfl), by first | exact Kd.R_nil _ _ _ _ _ | exact Kd.N_nil _ _ _ _ _ | exact Kd.V_nil _ _ _ _ _ | exact Kd.Q_nil _ _ _ _ _ | exact Kd.S_nil _ _ _ _ _, by repeat (first | (with_reducible first | exact HB.out | apply below_alloc | apply pw_below_drewN | apply below_drew1) | exact HB.out)⟩

end Go.Proofs.Ytelcaepenfjloaa.Print
/-! #### PureMer2 -/
/- What the functions on lists of texts come to: digests, levels, roots, paths, lengths of paths; the reference's. -/
namespace Go.Proofs.Ytelcaepenfjloaa.Pure
open Go.RowKit Go.Proofs.Ytelcaepenfjloaa.Print Go.Proofs.YtelcaepenfjloaaW.PrintWords Go.Proofs.YtelcaepenfjloaaW.PrintLast Go.Proofs.YtelcaepenfjloaaW.PrintMore
set_option linter.unusedVariables false
set_option linter.unusedSimpArgs false

theorem rdOf_at (l : List ByteArray) (i : Nat) : rdOf ByteArray.empty l (i : Int) = l.getD i ByteArray.empty := by simp [rdOf]
theorem getD_mem (l : List ByteArray) (i : Nat) (h : i < l.length) : l.getD i ByteArray.empty ∈ l := by
  rw [List.getD_eq_getElem?_getD, List.getElem?_eq_getElem h]
  exact List.getElem_mem h
theorem drop_getD (l : List ByteArray) (i : Nat) (h : i < l.length) : l.drop i = l.getD i ByteArray.empty :: l.drop (i + 1) := by
  rw [List.drop_eq_getElem_cons h, List.getD_eq_getElem?_getD, List.getElem?_eq_getElem h]
  rfl
theorem take_getD (l : List ByteArray) (i : Nat) (h : i < l.length) : l.take (i + 1) = l.take i ++ [l.getD i ByteArray.empty] := by
  rw [List.take_succ_eq_append_getElem h, List.getD_eq_getElem?_getD, List.getElem?_eq_getElem h]
  rfl
theorem digests_l0 (l : List ByteArray) (hl : l.length ≤ 1000) (hs : ∀ s ∈ l, s.size ≤ 65535) (d : Nat) : ∀ i : Nat, i + d = l.length → Ev (fun k => merkle_digests.l0 k ((l.take i).map leafD) l (l.length : Int) (i : Int)) (l.map leafD) := by
  induction d with
  | zero =>
    intro i hi
    refine Ev.succ ?_
    simp only [merkle_digests.l0]
    refine Ev.neg (by omega) (Ev.some_ ?_)
    rw [List.take_of_length_le (by omega)]
  | succ d ih =>
    intro i hi
    refine Ev.succ ?_
    simp only [merkle_digests.l0]
    rw [rdOf_at, leaf_f _ (hs _ (getD_mem l i (by omega))), wrap_succ _ (by omega)]
    have := ih (i + 1) (by omega)
    rw [take_getD l i (by omega), List.map_append] at this
    exact Ev.pos (by omega) (Ev.pos (by omega) (Ev.pos (by omega) (Ev.some_bind (Ev.pos (by simp; omega) this))))
theorem digests_ev (l : List ByteArray) (hl : l.length ≤ 1000) (hs : ∀ s ∈ l, s.size ≤ 65535) : Ev (fun k => merkle_digests.f k l) (l.map leafD) := digests_l0 l hl hs l.length 0 (by omega)
theorem pairs_l0 (l : List ByteArray) (hl : l.length ≤ 1000) (hs : ∀ s ∈ l, s.size = 32) (d : Nat) : ∀ (i : Nat) (acc : List ByteArray), i ≤ l.length → l.length - i = d → acc.length ≤ i → Ev (fun k => merkle_pairs.l0 k l acc (i : Int)) (acc ++ pairsM (l.drop i)) := by
  induction d using Nat.strongRecOn with
  | _ d ih =>
    intro i acc hi hd ha
    refine Ev.succ ?_
    simp only [merkle_pairs.l0]
    have e1 : wrap64 ((i : Int) + 1) = ((i + 1 : Nat) : Int) := wrap_succ i (by omega)
    have e2 : wrap64 ((i : Int) + 2) = ((i + 2 : Nat) : Int) := by unfold wrap64; omega
    rw [e1, e2]
    by_cases h0 : i = l.length
    · refine Ev.neg (by omega) (Ev.some_ ?_)
      rw [List.drop_of_length_le (by omega)]
      simp [pairsM]
    refine Ev.pos (by omega) ?_
    by_cases h1 : i + 1 = l.length
    · have hN : Ev (fun k => merkle_pairs.l0 k l (acc ++ [l.getD i ByteArray.empty]) ((i + 2 : Nat) : Int)) (acc ++ pairsM (l.drop i)) := by
        refine Ev.succ ?_
        simp only [merkle_pairs.l0]
        refine Ev.neg (by omega) (Ev.some_ ?_)
        rw [drop_getD l i (by omega), List.drop_of_length_le (by omega)]
        simp [pairsM]
      rw [rdOf_at]
      exact Ev.pos (by omega) (Ev.pos (by omega) (Ev.pos (by omega) hN))
    · rw [rdOf_at, rdOf_at, Knot_f _ _ (by rw [hs _ (getD_mem l i (by omega)), hs _ (getD_mem l (i + 1) (by omega))]; omega)]
      have := ih (d - 2) (by omega) (i + 2) (acc ++ [knotD (l.getD i ByteArray.empty) (l.getD (i + 1) ByteArray.empty)]) (by omega) (by omega) (by simp; omega)
      refine Ev.neg (by omega) (Ev.pos (by omega) (Ev.pos (by omega) (Ev.pos (by omega) (Ev.some_bind (Ev.pos (by omega) (this.to ?_))))))
      rw [drop_getD l i (by omega), drop_getD l (i + 1) (by omega), pairsM, List.append_assoc]
      rfl
theorem pairs_ev (l : List ByteArray) (hl : l.length ≤ 1000) (hs : ∀ s ∈ l, s.size = 32) : Ev (fun k => merkle_pairs.f k l) (pairsM l) := by
  have := pairs_l0 l hl hs l.length 0 [] (by omega) (by omega) (by simp)
  rw [List.drop_zero, List.nil_append] at this
  exact this
theorem leafs_size (l : List ByteArray) : ∀ x ∈ l.map leafD, x.size = 32 := by
  intro x hx
  obtain ⟨y, _, rfl⟩ := List.mem_map.1 hx
  exact leafD_size y
theorem up_ev (n : Nat) : ∀ l : List ByteArray, l.length = n → 1 ≤ n → n ≤ 1000 → (∀ s ∈ l, s.size = 32) → Ev (fun k => merkle_Root.l0 k l) (topM l, 0) := by
  induction n using Nat.strongRecOn with
  | _ n ih =>
    intro l hl h1 h2 hs
    refine Ev.succ ?_
    simp only [merkle_Root.l0]
    by_cases h : n = 1
    · obtain ⟨a, rfl⟩ := list1 l (by omega)
      refine Ev.pos rfl (Ev.pos (by simp) (Ev.some_ ?_))
      rw [topM_one]
      rfl
    · refine Ev.neg (by omega) (Ev.bind (pairs_ev l (by omega) hs) ?_)
      have hp := pairsM_length l
      rw [← pairs_top n l hl (by omega)]
      exact ih (pairsM l).length (by omega) _ rfl (by omega) (by omega) (pairsM_size l hs)
theorem mayM_zero {l : List ByteArray} (h : mayM l = 0) : 1 ≤ l.length ∧ l.length ≤ 256 ∧ ∀ s ∈ l, s.size ≤ 1024 := by
  unfold mayM at h
  split at h
  · simp at h
  · split at h
    · simp at h
    · split at h
      · simp at h
      · rename_i h1 h2 h3
        refine ⟨by omega, by omega, fun s hs => ?_⟩
        rw [Bool.not_eq_true, List.any_eq_false] at h3
        have := h3 s hs
        unfold longB at this
        simp only [decide_eq_true_eq] at this
        omega
theorem Root_ev (l : List ByteArray) : Ev (fun k => merkle_Root.f k l) (if mayM l = 0 then (topM (l.map leafD), 0) else ((⟨#[]⟩ : ByteArray), mayM l)) := by
  unfold merkle_Root.f
  refine Ev.call (show merkle_may.f l = some (mayM l) from rfl) ?_
  by_cases h : mayM l = 0
  · obtain ⟨h1, h2, h3⟩ := mayM_zero h
    rw [if_pos h]
    exact Ev.pos h (Ev.bind (digests_ev l (by omega) (fun s hs => by have := h3 s hs; omega)) (up_ev (l.map leafD).length _ rfl (by simpa using h1) (by simp; omega) (leafs_size l)))
  · rw [if_neg h]
    exact Ev.neg h (Ev.some_ rfl)
theorem tdiv2 (i : Nat) (h : i < 1000000) : wrap64 (Int.tdiv (i : Int) 2) = ((i / 2 : Nat) : Int) := by
  rw [Int.tdiv_eq_ediv_of_nonneg (by omega)]
  unfold wrap64
  omega
theorem path_l0 (n : Nat) : ∀ (l : List ByteArray) (i : Nat) (acc : List ByteArray), l.length = n → 1 ≤ n → n ≤ 256 → i < n → acc.length + n ≤ 2000 → (∀ s ∈ l, s.size = 32) → Ev (fun k => merkle_Path.l0 k (i : Int) acc l) (acc ++ wayM l i, 0) := by
  induction n using Nat.strongRecOn with
  | _ n ih =>
    intro l i acc hl h1 h2 hi ha hs
    refine Ev.succ ?_
    simp only [merkle_Path.l0]
    by_cases h : n = 1
    · obtain ⟨a, rfl⟩ := list1 l (by omega)
      refine Ev.neg (by simp) (Ev.some_ ?_)
      rw [wayM_one, List.append_nil]
    · have hp := pairsM_length l
      have hsb : sib i ≤ i + 1 := by unfold sib; split <;> omega
      rw [sib_xor i (by omega), tdiv2 i (by omega), rdOf_at, way_step n l i hl (by omega) hi]
      refine Ev.pos (by omega) ?_
      unfold sibL
      by_cases hc : sib i < l.length
      · have := ih (pairsM l).length (by omega) (pairsM l) (i / 2) (acc ++ [l.getD (sib i) ByteArray.empty]) rfl (by omega) (by omega) (by omega) (by simp; omega) (pairsM_size l hs)
        rw [List.append_assoc] at this
        rw [if_pos hc]
        exact Ev.pos (by omega) (Ev.pos (by omega) (Ev.pos (by omega) (Ev.bind (pairs_ev l (by omega) hs) this)))
      · have := ih (pairsM l).length (by omega) (pairsM l) (i / 2) acc rfl (by omega) (by omega) (by omega) (by omega) (pairsM_size l hs)
        rw [if_neg hc]
        exact Ev.neg (by omega) (Ev.bind (pairs_ev l (by omega) hs) this)
def inP (n i : Int) : Bool := decide (1 ≤ n ∧ n ≤ 256 ∧ 0 ≤ i ∧ i < n)
theorem in_f (n i : Int) : merkle_in.f n i = some (inP n i) := by
  unfold merkle_in.f inP
  by_cases a : n ≥ 1
  · rw [if_pos a]
    by_cases b : n ≤ 256
    · rw [if_pos b]
      by_cases c : i ≥ 0
      · rw [if_pos c]
        by_cases d : i < n
        · rw [decide_eq_true d, decide_eq_true (by omega)]
        · rw [decide_eq_false d, decide_eq_false (by omega)]
      · rw [if_neg c, decide_eq_false (by omega)]
    · rw [if_neg b, decide_eq_false (by omega)]
  · rw [if_neg a, decide_eq_false (by omega)]
def pathR (l : List ByteArray) (i : Int) : List ByteArray × Int :=
  if mayM l = 0 then (if inP l.length i = true then (wayM (l.map leafD) i.toNat, 0) else ([], 1)) else ([], mayM l)
theorem Path_ev (l : List ByteArray) (i : Int) : Ev (fun k => merkle_Path.f k l i) (pathR l i) := by
  unfold merkle_Path.f pathR
  refine Ev.call (show merkle_may.f l = some (mayM l) from rfl) ?_
  by_cases h : mayM l = 0
  · obtain ⟨h1, h2, h3⟩ := mayM_zero h
    rw [if_pos h]
    refine Ev.pos h (Ev.call (in_f _ _) ?_)
    by_cases c : inP l.length i = true
    · rw [if_pos c]
      have c' := of_decide_eq_true c
      refine Ev.pos c (Ev.bind (digests_ev l (by omega) (fun s hs => by have := h3 s hs; omega)) ?_)
      have := path_l0 (l.map leafD).length (l.map leafD) i.toNat [] rfl (by simpa using h1) (by simpa using h2) (by simp; omega) (by simp; omega) (leafs_size l)
      rw [show ((i.toNat : Nat) : Int) = i by omega] at this
      exact this
    · rw [if_neg c]
      exact Ev.neg c (Ev.some_ rfl)
  · rw [if_neg h]
    exact Ev.neg h (Ev.some_ rfl)

/-! ### How long a path is -/
theorem depth_one (k : Nat) (n i d : Int) : merkle_Depth.l0 (k + 1) n i d = if n > 1 then (if (Go.bits .xor .i64 i 1) < n then (merkle_Depth.l0 k (wrap64 (Int.tdiv (wrap64 (n + 1)) 2)) (wrap64 (Int.tdiv i 2)) (wrap64 (d + 1))) else (merkle_Depth.l0 k (wrap64 (Int.tdiv (wrap64 (n + 1)) 2)) (wrap64 (Int.tdiv i 2)) d)) else (some d) := rfl
theorem depth_l0 (j : Nat) : ∀ (k n i d : Nat), n ≤ 2 ^ j → i < n → n ≤ 256 → d + n ≤ 2000 → merkle_Depth.l0 (k + j + 1) (n : Int) (i : Int) (d : Int) = some ((d + depthM n i : Nat) : Int) := by
  induction j with
  | zero =>
    intro k n i d h hi hn hd
    have : n = 1 := by simp at h; omega
    subst this
    simp only [merkle_Depth.l0]
    rw [if_neg (by omega), depthM_one _ _ (by omega)]
    rfl
  | succ j ih =>
    intro k n i d h hi hn hd
    by_cases h1 : n = 1
    · subst h1
      simp only [merkle_Depth.l0]
      rw [if_neg (by omega), depthM_one _ _ (by omega)]
      rfl
    · rw [Nat.pow_succ] at h
      have e1 : wrap64 (Int.tdiv (wrap64 ((n : Int) + 1)) 2) = (((n + 1) / 2 : Nat) : Int) := by
        rw [wrap_succ n (by omega), tdiv2 _ (by omega)]
      rw [show k + (j + 1) + 1 = (k + j + 1) + 1 by omega, depth_one, if_pos (by omega), sib_xor i (by omega), e1, tdiv2 i (by omega), wrap_succ d (by omega), depth_step n i (by omega) hi]
      by_cases hc : sib i < n
      · rw [if_pos (by omega), if_pos hc, ih k _ _ _ (by omega) (by omega) (by omega) (by omega)]
        congr 1
        omega
      · rw [if_neg (by omega), if_neg hc, ih k _ _ _ (by omega) (by omega) (by omega) (by omega)]
        congr 1
        omega
def depthR (n i : Int) : Int := if inP n i = true then (depthM n.toNat i.toNat : Int) else -1
theorem Depth_f (k : Nat) (n i : Int) : merkle_Depth.f (k + 9) n i = some (depthR n i) := by
  unfold merkle_Depth.f depthR
  rw [in_f]
  simp only [Option.bind_some]
  by_cases c : inP n i = true
  · rw [if_pos c, if_pos c]
    have c' := of_decide_eq_true c
    have := depth_l0 8 k n.toNat i.toNat 0 (by omega) (by omega) (by omega) (by omega)
    rw [show ((n.toNat : Nat) : Int) = n by omega, show ((i.toNat : Nat) : Int) = i by omega, Nat.zero_add] at this
    exact this
  · rw [if_neg c, if_neg c]
theorem refdepth_l0 (n : Nat) : ∀ (i d : Nat), 1 ≤ n → n ≤ 1000 → i < n → d + n ≤ 10000 → Ev (fun k => mosaicref03_Depth.l0 k (n : Int) (i : Int) (d : Int)) ((d + depthM n i : Nat) : Int) := by
  induction n using Nat.strongRecOn with
  | _ n ih =>
    intro i d h1 hn hi hd
    refine Ev.succ ?_
    simp only [mosaicref03_Depth.l0]
    by_cases h : n = 1
    · refine Ev.neg (by omega) (Ev.some_ ?_)
      rw [depthM_one _ _ (by omega)]
      rfl
    · have hlt := halfN_lt n (by omega)
      have hps := halfN_pos n
      rw [wrap_succ d (by omega)]
      refine Ev.pos (by omega) (Ev.bind (half_ev n (by omega) (by omega)) ?_)
      by_cases c : i < halfN n
      · have := ih (halfN n) hlt i (d + 1) (by omega) (by omega) c (by omega)
        refine Ev.pos (by omega) (this.to ?_)
        rw [depthM_left n i (by omega) c]
        congr 1
        omega
      · have := ih (n - halfN n) (by omega) (i - halfN n) (d + 1) (by omega) (by omega) (by omega) (by omega)
        have e1 : wrap64 ((n : Int) - (halfN n : Int)) = ((n - halfN n : Nat) : Int) := by unfold wrap64; omega
        have e2 : wrap64 ((i : Int) - (halfN n : Int)) = ((i - halfN n : Nat) : Int) := by unfold wrap64; omega
        rw [e1, e2]
        refine Ev.neg (by omega) (this.to ?_)
        rw [depthM_right n i (by omega) c]
        congr 1
        omega
theorem refDepth_ev (n i : Int) : Ev (fun k => mosaicref03_Depth.f k n i) (depthR n i) := by
  unfold mosaicref03_Depth.f depthR
  have j1 : ∀ b : Bool, b = true → Ev (fun k => mosaicref03_Depth.j0 k n i b) (-1) := by
    rintro b rfl
    refine Ev.succ ?_
    simp only [mosaicref03_Depth.j0]
    exact Ev.pos trivial (Ev.some_ rfl)
  by_cases a : n < 1
  · rw [if_neg (by unfold inP; simp; omega)]
    exact Ev.pos a (j1 _ rfl)
  by_cases b : n > 256
  · rw [if_neg (by unfold inP; simp; omega)]
    exact Ev.neg a (Ev.pos b (j1 _ rfl))
  by_cases c : i < 0
  · rw [if_neg (by unfold inP; simp; omega)]
    exact Ev.neg a (Ev.neg b (Ev.pos c (j1 _ rfl)))
  by_cases d : i ≥ n
  · rw [if_neg (by unfold inP; simp; omega)]
    exact Ev.neg a (Ev.neg b (Ev.neg c (j1 _ (decide_eq_true d))))
  rw [if_pos (by unfold inP; simp; omega), decide_eq_false d]
  refine Ev.neg a (Ev.neg b (Ev.neg c (Ev.succ ?_)))
  simp only [mosaicref03_Depth.j0]
  have := refdepth_l0 n.toNat i.toNat 0 (by omega) (by omega) (by omega) (by omega)
  rw [show ((n.toNat : Nat) : Int) = n by omega, show ((i.toNat : Nat) : Int) = i by omega, Nat.zero_add] at this
  exact Ev.neg (by simp) this

/-! ### The reference's lists -/
theorem depthM_le (n : Nat) : ∀ i, depthM n i ≤ n := by
  induction n using Nat.strongRecOn with
  | _ n ih =>
    intro i
    by_cases h : n ≤ 1
    · rw [depthM_one n i h]
      omega
    · have hlt := halfN_lt n (by omega)
      have hps := halfN_pos n
      by_cases c : i < halfN n
      · rw [depthM_left n i (by omega) c]
        have := ih (halfN n) hlt i
        omega
      · rw [depthM_right n i (by omega) c]
        have := ih (n - halfN n) (by omega) (i - halfN n)
        omega
theorem same_l0 (l : List ByteArray) (hl : l.length ≤ 9223372036854775806) (d : Nat) : ∀ i : Nat, i + d = l.length → Ev (fun k => mosaicref03_Same.l0 k l l (i : Int)) true := by
  induction d with
  | zero =>
    intro i hi
    refine Ev.succ ?_
    simp only [mosaicref03_Same.l0]
    exact Ev.neg (by omega) (Ev.some_ rfl)
  | succ d ih =>
    intro i hi
    refine Ev.succ ?_
    simp only [mosaicref03_Same.l0]
    rw [wrap_succ i (by omega)]
    exact Ev.pos (by omega) (Ev.pos (by omega) (Ev.pos (by omega) (Ev.pos trivial (ih (i + 1) (by omega)))))
theorem same_ev (l : List ByteArray) (hl : l.length ≤ 9223372036854775806) : Ev (fun k => mosaicref03_Same.f k l l) true := Ev.pos rfl (same_l0 l hl l.length 0 (by omega))
theorem few_l0 (l : List ByteArray) (m : Int) (hl : l.length ≤ 1000) (d : Nat) : ∀ i : Nat, i + d = l.length → ∃ b, Ev (fun k => mosaiclaw03_few.l0 k l m (i : Int)) b ∧ (b = true → ∀ s ∈ l.drop i, (s.size : Int) ≤ m) := by
  induction d with
  | zero =>
    intro i hi
    refine ⟨true, Ev.succ ?_, fun _ s hs => ?_⟩
    · simp only [mosaiclaw03_few.l0]
      exact Ev.neg (by omega) (Ev.some_ rfl)
    · rw [List.drop_of_length_le (by omega)] at hs
      simp at hs
  | succ d ih =>
    intro i hi
    obtain ⟨b, h1, h2⟩ := ih (i + 1) (by omega)
    by_cases c : ((l.getD i ByteArray.empty).size : Int) > m
    · refine ⟨false, Ev.succ ?_, fun h => by simp at h⟩
      simp only [mosaiclaw03_few.l0]
      rw [rdOf_at]
      exact Ev.pos (by omega) (Ev.pos (by omega) (Ev.pos c (Ev.some_ rfl)))
    · refine ⟨b, Ev.succ ?_, fun hb s hs => ?_⟩
      · simp only [mosaiclaw03_few.l0]
        rw [rdOf_at, wrap_succ i (by omega)]
        exact Ev.pos (by omega) (Ev.pos (by omega) (Ev.neg c h1))
      · rw [drop_getD l i (by omega)] at hs
        rcases List.mem_cons.1 hs with rfl | hs
        · omega
        · exact h2 hb s hs
theorem few_ev (l : List ByteArray) (n m : Int) (hn : n ≤ 1000) : ∃ b, Ev (fun k => mosaiclaw03_few.f k l n m) b ∧ (b = true → (l.length : Int) ≤ n ∧ ∀ s ∈ l, (s.size : Int) ≤ m) := by
  unfold mosaiclaw03_few.f
  by_cases c : (l.length : Int) > n
  · exact ⟨false, Ev.pos c (Ev.some_ rfl), fun h => by simp at h⟩
  · obtain ⟨b, h1, h2⟩ := few_l0 l m (by omega) l.length 0 (by omega)
    exact ⟨b, Ev.neg c h1, fun hb => ⟨by omega, h2 hb⟩⟩

/-! ### The page's example -/
theorem halfN_3 : halfN 3 = 2 := by decide
theorem top3 (a b c : ByteArray) : topM [a, b, c] = knotD (knotD a b) c := by
  rw [topM_two _ (by simp)]
  show knotD (topM ([a, b, c].take (halfN 3))) (topM ([a, b, c].drop (halfN 3))) = _
  rw [halfN_3]
  show knotD (topM [a, b]) (topM [c]) = _
  rw [topM_one, topM_two _ (by simp)]
  show knotD (knotD (topM ([a, b].take (halfN 2))) (topM ([a, b].drop (halfN 2)))) c = _
  rw [halfN_2]
  show knotD (knotD (topM [a]) (topM [b])) c = _
  rw [topM_one, topM_one]
theorem way30 (a b c : ByteArray) : wayM [a, b, c] 0 = [b, c] := by
  rw [wayM_left _ _ (by simp) (by show 0 < halfN 3; rw [halfN_3]; omega)]
  show wayM ([a, b, c].take (halfN 3)) 0 ++ [topM ([a, b, c].drop (halfN 3))] = _
  rw [halfN_3]
  show wayM [a, b] 0 ++ [topM [c]] = _
  rw [topM_one, wayM_left _ _ (by simp) (by show 0 < halfN 2; rw [halfN_2]; omega)]
  show (wayM ([a, b].take (halfN 2)) 0 ++ [topM ([a, b].drop (halfN 2))]) ++ [c] = _
  rw [halfN_2]
  show (wayM [a] 0 ++ [topM [b]]) ++ [c] = _
  rw [topM_one, wayM_one]
  rfl
theorem way32 (a b c : ByteArray) : wayM [a, b, c] 2 = [knotD a b] := by
  rw [wayM_right _ _ (by simp) (by show ¬ 2 < halfN 3; rw [halfN_3]; omega)]
  show wayM ([a, b, c].drop (halfN 3)) (2 - halfN 3) ++ [topM ([a, b, c].take (halfN 3))] = _
  rw [halfN_3]
  show wayM [c] 0 ++ [topM [a, b]] = _
  rw [wayM_one, topM_two _ (by simp)]
  show [] ++ [knotD (topM ([a, b].take (halfN 2))) (topM ([a, b].drop (halfN 2)))] = _
  rw [halfN_2]
  show [] ++ [knotD (topM [a]) (topM [b])] = _
  rw [topM_one, topM_one]
  rfl
theorem awake03T : Ev (fun k => mosaiclaw03_awakeT.f k) true := by
  unfold mosaiclaw03_awakeT.f
  have hm : mayM [(⟨#[97]⟩ : ByteArray), (⟨#[98]⟩ : ByteArray), (⟨#[99]⟩ : ByteArray)] = 0 := by decide +kernel
  have hr := Root_ev [(⟨#[97]⟩ : ByteArray), (⟨#[98]⟩ : ByteArray), (⟨#[99]⟩ : ByteArray)]
  have p0 := Path_ev [(⟨#[97]⟩ : ByteArray), (⟨#[98]⟩ : ByteArray), (⟨#[99]⟩ : ByteArray)] 0
  have p2 := Path_ev [(⟨#[97]⟩ : ByteArray), (⟨#[98]⟩ : ByteArray), (⟨#[99]⟩ : ByteArray)] 2
  unfold pathR at p0 p2
  rw [if_pos hm] at hr p0 p2
  rw [if_pos (by decide)] at p0 p2
  simp only [List.map_cons, List.map_nil] at hr p0 p2
  rw [top3] at hr
  rw [show (0 : Int).toNat = 0 from rfl, way30] at p0
  rw [show (2 : Int).toNat = 2 from rfl, way32] at p2
  have za : (⟨#[97]⟩ : ByteArray).size ≤ 65535 := by decide
  have zb : (⟨#[98]⟩ : ByteArray).size ≤ 65535 := by decide
  have zc : (⟨#[99]⟩ : ByteArray).size ≤ 65535 := by decide
  have sa := leafD_size ⟨#[97]⟩
  have sb := leafD_size ⟨#[98]⟩
  have sc := leafD_size ⟨#[99]⟩
  have sk := knotD_size (leafD ⟨#[97]⟩) (leafD ⟨#[98]⟩)
  refine Ev.some_bind (Ev.bind hr (Ev.bind p0 (Ev.bind p2 (Ev.call (leaf_f _ za) (Ev.call (leaf_f _ zb) (Ev.call (Knot_f _ _ (by omega)) (Ev.pos rfl (Ev.pos rfl (Ev.pos rfl (Ev.call (leaf_f _ zc) (Ev.call (Knot_f _ _ (by omega)) (Ev.pos rfl (Ev.pos rfl (Ev.pos (by simp) (Ev.call (leaf_f _ zb) (Ev.pos rfl (Ev.pos rfl (Ev.pos (by simp) (Ev.pos rfl (Ev.some_ ?_))))))))))))))))))))
  rw [knotD_size]
  rfl
theorem awake03 : Ev (fun k => mosaiclaw03_awake.f k) true := by
  obtain ⟨K, h⟩ := awake03T
  refine ⟨K, fun k hk => ?_⟩
  show (if mosaiclaw03_awakeT.f k = some true then some true else none) = some true
  exact if_pos (h k hk)
end Go.Proofs.Ytelcaepenfjloaa.Pure
/-! #### PureMer3 -/
/- Folding a digest by a path: level by level it comes to what halves come to. -/
namespace Go.Proofs.Ytelcaepenfjloaa.Pure
open Go.RowKit Go.Proofs.Ytelcaepenfjloaa.Print Go.Proofs.YtelcaepenfjloaaW.PrintWords Go.Proofs.YtelcaepenfjloaaW.PrintLast Go.Proofs.YtelcaepenfjloaaW.PrintMore
set_option linter.unusedVariables false
set_option linter.unusedSimpArgs false

/-- The root, and the knots' texts that are summed, by halves: the path's last digest is the other half's. -/
def climbF : Nat → Nat → Nat → ByteArray → List ByteArray → ByteArray × List ByteArray
  | 0, _, _, d, _ => (d, [])
  | f + 1, n, i, d, p =>
    if p.length = 0 then (d, [])
    else
      let x := p.getD (p.length - 1) ByteArray.empty
      let c := if i < halfN n then climbF f (halfN n) i d (p.take (p.length - 1)) else climbF f (n - halfN n) (i - halfN n) d (p.take (p.length - 1))
      let t := if i < halfN n then knotT c.1 x else knotT x c.1
      (shaSum t, c.2 ++ [t])
/-- As many rounds as the path is long. -/
def climbR (n i : Nat) (d : ByteArray) (p : List ByteArray) : ByteArray × List ByteArray := climbF p.length n i d p
theorem climbR_nil (n i : Nat) (d : ByteArray) : climbR n i d [] = (d, []) := rfl
theorem climbR_left (n i : Nat) (d : ByteArray) (p : List ByteArray) (x : ByteArray) (h : i < halfN n) :
    climbR n i d (p ++ [x]) = (shaSum (knotT (climbR (halfN n) i d p).1 x), (climbR (halfN n) i d p).2 ++ [knotT (climbR (halfN n) i d p).1 x]) := by
  have hl : (p ++ [x]).length = p.length + 1 := by simp
  have e1 : (p ++ [x]).getD ((p ++ [x]).length - 1) ByteArray.empty = x := by
    rw [hl, Nat.add_sub_cancel]
    simp [List.getD_eq_getElem?_getD]
  have e2 : (p ++ [x]).take ((p ++ [x]).length - 1) = p := by
    rw [hl, Nat.add_sub_cancel]
    simp
  unfold climbR
  conv => lhs; rw [hl, climbF, if_neg (by rw [hl]; omega), e1, e2]
  simp only [if_pos h]
theorem climbR_right (n i : Nat) (d : ByteArray) (p : List ByteArray) (x : ByteArray) (h : ¬ i < halfN n) :
    climbR n i d (p ++ [x]) = (shaSum (knotT x (climbR (n - halfN n) (i - halfN n) d p).1), (climbR (n - halfN n) (i - halfN n) d p).2 ++ [knotT x (climbR (n - halfN n) (i - halfN n) d p).1]) := by
  have hl : (p ++ [x]).length = p.length + 1 := by simp
  have e1 : (p ++ [x]).getD ((p ++ [x]).length - 1) ByteArray.empty = x := by
    rw [hl, Nat.add_sub_cancel]
    simp [List.getD_eq_getElem?_getD]
  have e2 : (p ++ [x]).take ((p ++ [x]).length - 1) = p := by
    rw [hl, Nat.add_sub_cancel]
    simp
  unfold climbR
  conv => lhs; rw [hl, climbF, if_neg (by rw [hl]; omega), e1, e2]
  simp only [if_neg h]
theorem snoc {α : Type} (l : List α) (k : Nat) (h : l.length = k + 1) : ∃ p x, l = p ++ [x] ∧ p.length = k := by
  refine ⟨l.take k, l[k], ?_, by rw [List.length_take]; omega⟩
  rw [← List.take_succ_eq_append_getElem (by omega), List.take_of_length_le (by omega)]
/-- The text of the first step. -/
def stepT (i : Nat) (d : ByteArray) (p : List ByteArray) : ByteArray := if i % 2 = 1 then knotT (p.getD 0 ByteArray.empty) d else knotT d (p.getD 0 ByteArray.empty)
theorem getD_snoc (p : List ByteArray) (x : ByteArray) (h : 1 ≤ p.length) : (p ++ [x]).getD 0 ByteArray.empty = p.getD 0 ByteArray.empty := by
  cases p with
  | nil => simp at h
  | cons a p => rfl
theorem drop_snoc (p : List ByteArray) (x : ByteArray) (h : 1 ≤ p.length) : (p ++ [x]).drop 1 = p.drop 1 ++ [x] := by
  cases p with
  | nil => simp at h
  | cons a p => rfl
def upStep (n i : Nat) (d : ByteArray) (p : List ByteArray) : ByteArray × List ByteArray :=
  if sib i < n then ((climbR ((n + 1) / 2) (i / 2) (shaSum (stepT i d p)) (p.drop 1)).1, stepT i d p :: (climbR ((n + 1) / 2) (i / 2) (shaSum (stepT i d p)) (p.drop 1)).2)
  else climbR ((n + 1) / 2) (i / 2) d p
theorem depth_pos (n i : Nat) (h : 2 ≤ n) : 1 ≤ depthM n i := by
  by_cases c : i < halfN n
  · rw [depthM_left n i h c]
    omega
  · rw [depthM_right n i h c]
    omega
theorem climb_step (n : Nat) : ∀ (i : Nat) (d : ByteArray) (p : List ByteArray), 2 ≤ n → i < n → p.length = depthM n i → climbR n i d p = upStep n i d p := by
  induction n using Nat.strongRecOn with
  | _ n ih =>
    intro i d p hn hi hp
    by_cases h2 : n = 2
    · subst h2
      have hh : halfN 2 = 1 := halfN_2
      rcases (by omega : i = 0 ∨ i = 1) with rfl | rfl
      · rw [depthM_left 2 0 (by omega) (by omega), hh, depthM_one 1 0 (by omega)] at hp
        obtain ⟨x, rfl⟩ := list1 p (by omega)
        rw [show [x] = [] ++ [x] from rfl, climbR_left 2 0 d [] x (by omega)]
        unfold upStep
        rw [if_pos (by decide)]
        rfl
      · rw [depthM_right 2 1 (by omega) (by omega), hh, depthM_one _ _ (by omega)] at hp
        obtain ⟨x, rfl⟩ := list1 p (by omega)
        rw [show [x] = [] ++ [x] from rfl, climbR_right 2 1 d [] x (by omega)]
        unfold upStep
        rw [if_pos (by decide)]
        rfl
    have hlt := halfN_lt n hn
    have hps := halfN_pos n
    have hge := halfN_ge n
    have ht := halfN_two n (by omega)
    have hp1 := halfN_pos ((n + 1) / 2)
    by_cases hc : i < halfN n
    · have hsk : sib i < halfN n := by unfold sib; split <;> omega
      rw [depthM_left n i hn hc] at hp
      obtain ⟨q, x, rfl, hq⟩ := snoc p _ hp
      have hdp := depth_pos (halfN n) i (by omega)
      have h1 := ih (halfN n) hlt i d q (by omega) hc hq
      unfold upStep at h1 ⊢
      rw [if_pos (by omega)] at h1 ⊢
      have hst : stepT i d (q ++ [x]) = stepT i d q := by unfold stepT; rw [getD_snoc q x (by omega)]
      rw [climbR_left n i d q x hc, hst, drop_snoc q x (by omega), climbR_left ((n + 1) / 2) (i / 2) _ _ x (by omega), h1, show (halfN n + 1) / 2 = halfN ((n + 1) / 2) by omega]
      rfl
    · rw [depthM_right n i hn hc] at hp
      obtain ⟨q, x, rfl, hq⟩ := snoc p _ hp
      have hs : sib (i - halfN n) + halfN n = sib i := by
        unfold sib
        split
        · rw [if_pos (by omega)]
          omega
        · rw [if_neg (by omega)]
          omega
      have hm : (i - halfN n) % 2 = i % 2 := by omega
      rw [climbR_right n i d q x hc]
      by_cases h1 : n - halfN n = 1
      · rw [h1, depthM_one 1 _ (by omega)] at hq
        have hq0 : q = [] := List.eq_nil_of_length_eq_zero hq
        subst hq0
        have e0 : i - halfN n = 0 := by omega
        unfold upStep
        have hsib : ¬ sib i < n := by
          rw [e0] at hs
          have : sib 0 = 1 := rfl
          omega
        rw [if_neg hsib, climbR_right ((n + 1) / 2) (i / 2) d [] x (by omega), climbR_nil, climbR_nil]
      · have hdp := depth_pos (n - halfN n) (i - halfN n) (by omega)
        have h3 := ih (n - halfN n) (by omega) (i - halfN n) d q (by omega) (by omega) hq
        unfold upStep at h3 ⊢
        have hst : stepT (i - halfN n) d q = stepT i d (q ++ [x]) := by
          unfold stepT
          rw [getD_snoc q x (by omega), hm]
        have e1 : (n - halfN n + 1) / 2 = (n + 1) / 2 - halfN ((n + 1) / 2) := by omega
        have e2 : (i - halfN n) / 2 = i / 2 - halfN ((n + 1) / 2) := by omega
        by_cases hz : sib i < n
        · rw [if_pos (by omega), hst, e1, e2] at h3
          rw [if_pos hz, drop_snoc q x (by omega), climbR_right ((n + 1) / 2) (i / 2) _ _ x (by omega), h3]
          rfl
        · rw [if_neg (by omega), e1, e2] at h3
          rw [if_neg hz, climbR_right ((n + 1) / 2) (i / 2) _ _ x (by omega), h3]

/-! ### What the functions come to -/
theorem climbR_size (n i : Nat) (d : ByteArray) (p : List ByteArray) (h : d.size = 32) : (climbR n i d p).1.size = 32 := by
  unfold climbR
  cases hp : p.length with
  | zero => exact h
  | succ k =>
    rw [climbF]
    split
    · exact h
    · exact shaSum_size _
theorem climbR_length : ∀ (k n i : Nat) (d : ByteArray) (p : List ByteArray), p.length = k → (climbR n i d p).2.length = k := by
  intro k
  induction k with
  | zero =>
    intro n i d p hp
    have : p = [] := List.eq_nil_of_length_eq_zero hp
    subst this
    rfl
  | succ k ih =>
    intro n i d p hp
    obtain ⟨q, x, rfl, hq⟩ := snoc p k hp
    by_cases c : i < halfN n
    · rw [climbR_left n i d q x c]
      show ((climbR (halfN n) i d q).2 ++ [_]).length = _
      rw [List.length_append, ih _ _ _ q hq]
      rfl
    · rw [climbR_right n i d q x c]
      show ((climbR (n - halfN n) (i - halfN n) d q).2 ++ [_]).length = _
      rw [List.length_append, ih _ _ _ q hq]
      rfl
theorem tmod2 (i : Nat) : Int.tmod (i : Int) 2 = ((i % 2 : Nat) : Int) := by
  rw [Int.tmod_eq_emod_of_nonneg (by omega)]
  omega
theorem climb_l0 (n : Nat) : ∀ (i : Nat) (d : ByteArray) (p acc : List ByteArray), 1 ≤ n → n ≤ 256 → i < n → p.length = depthM n i → d.size = 32 → (∀ x ∈ p, x.size = 32) → acc.length + n ≤ 2000 →
    Ev (fun k => merkle_climb.l0 k (n : Int) (i : Int) d p acc) ((climbR n i d p).1, acc ++ (climbR n i d p).2) := by
  induction n using Nat.strongRecOn with
  | _ n ih =>
    intro i d p acc h1 hn hi hp hd hs ha
    refine Ev.succ ?_
    simp only [merkle_climb.l0]
    by_cases h : n = 1
    · subst h
      rw [depthM_one 1 i (by omega)] at hp
      have hp0 : p = [] := List.eq_nil_of_length_eq_zero hp
      subst hp0
      refine Ev.neg (by omega) (Ev.some_ ?_)
      rw [climbR_nil, List.append_nil]
    have hsb : sib i ≤ i + 1 := by unfold sib; split <;> omega
    have e1 : wrap64 (Int.tdiv (wrap64 ((n : Int) + 1)) 2) = (((n + 1) / 2 : Nat) : Int) := by rw [wrap_succ n (by omega), tdiv2 _ (by omega)]
    rw [sib_xor i (by omega), e1, tdiv2 i (by omega), tmod2]
    have hst := climb_step n i d p (by omega) hi hp
    have hds := depth_step n i (by omega) hi
    unfold upStep at hst
    refine Ev.pos (by omega) ?_
    by_cases c : sib i < n
    · rw [if_pos c] at hst hds
      have hp0 : 0 < p.length := by omega
      have hx := hs _ (getD_mem p 0 hp0)
      have r0 : rdOf ByteArray.empty p 0 = p.getD 0 ByteArray.empty := rdOf_at p 0
      have hdl : (p.drop 1).length = depthM ((n + 1) / 2) (i / 2) := by rw [List.length_drop]; omega
      have hsd : ∀ x ∈ p.drop 1, x.size = 32 := fun x hx => hs x (List.mem_of_mem_drop hx)
      have next := ih ((n + 1) / 2) (by omega) (i / 2) (shaSum (stepT i d p)) (p.drop 1) (acc ++ [stepT i d p]) (by omega) (by omega) (by omega) hdl (shaSum_size _) hsd (by simp; omega)
      have hres : ((climbR n i d p).1, acc ++ (climbR n i d p).2) = ((climbR ((n + 1) / 2) (i / 2) (shaSum (stepT i d p)) (p.drop 1)).1, (acc ++ [stepT i d p]) ++ (climbR ((n + 1) / 2) (i / 2) (shaSum (stepT i d p)) (p.drop 1)).2) := by
        rw [hst, List.append_assoc]
        rfl
      rw [hres, r0, knot_f d _ (by omega), knot_f _ d (by omega)]
      have z1 := knotT_size d (p.getD 0 ByteArray.empty)
      have z2 := knotT_size (p.getD 0 ByteArray.empty) d
      refine Ev.neg (by omega) (Ev.pos (by omega) (Ev.some_bind ?_))
      by_cases m : i % 2 = 1
      · have e : stepT i d p = knotT (p.getD 0 ByteArray.empty) d := if_pos m
        rw [e] at next ⊢
        exact Ev.pos (by omega) (Ev.some_bind (Ev.pos (by omega) (Ev.call (sha_f _ (by omega)) (Ev.pos (by omega) next))))
      · have e : stepT i d p = knotT d (p.getD 0 ByteArray.empty) := if_neg m
        rw [e] at next ⊢
        exact Ev.neg (by omega) (Ev.pos (by omega) (Ev.call (sha_f _ (by omega)) (Ev.pos (by omega) next)))
    · rw [if_neg c] at hst hds
      have next := ih ((n + 1) / 2) (by omega) (i / 2) d p acc (by omega) (by omega) (by omega) (by omega) hd hs (by omega)
      rw [hst]
      exact Ev.pos (by omega) next
theorem climb_ev (n i : Nat) (d : ByteArray) (p : List ByteArray) (h1 : 1 ≤ n) (hn : n ≤ 256) (hi : i < n) (hp : p.length = depthM n i) (hd : d.size = 32) (hs : ∀ x ∈ p, x.size = 32) :
    Ev (fun k => merkle_climb.f k (n : Int) (i : Int) d p) (climbR n i d p) := climb_l0 n i d p [] h1 hn hi hp hd hs (by simp; omega)
theorem refclimb_ev (f : Nat) : ∀ (n i : Nat) (d : ByteArray) (p : List ByteArray), p.length = f → 1 ≤ n → n ≤ 256 → i < n → p.length = depthM n i → d.size = 32 → (∀ x ∈ p, x.size = 32) →
    Ev (fun k => mosaicref03_climb.f k (n : Int) (i : Int) d p) (climbR n i d p) := by
  induction f with
  | zero =>
    intro n i d p hf h1 hn hi hp hd hs
    have hp0 : p = [] := List.eq_nil_of_length_eq_zero hf
    subst hp0
    refine Ev.succ ?_
    simp only [mosaicref03_climb.f]
    exact Ev.pos rfl (Ev.some_ rfl)
  | succ f ih =>
    intro n i d p hf h1 hn hi hp hd hs
    have hn2 : 2 ≤ n := by
      rcases Nat.lt_or_ge 1 n with h | h
      · omega
      · rw [depthM_one n i h] at hp
        omega
    have hlt := halfN_lt n hn2
    have hps := halfN_pos n
    have hdl := depthM_le n i
    obtain ⟨q, x, rfl, hq⟩ := snoc p f hf
    have hl : (q ++ [x]).length = q.length + 1 := by simp
    have hx : x.size = 32 := hs x (by simp)
    have hsq : ∀ y ∈ q, y.size = 32 := fun y hy => hs y (by simp [hy])
    have e1 : wrap64 (((q ++ [x]).length : Int) - 1) = (q.length : Int) := by rw [hl]; unfold wrap64; omega
    have e2 : (q ++ [x]).take ((q.length : Int)).toNat = q := by simp
    have e3 : rdOf ByteArray.empty (q ++ [x]) (q.length : Int) = x := by
      rw [rdOf_at]
      simp [List.getD_eq_getElem?_getD]
    refine Ev.succ ?_
    simp only [mosaicref03_climb.f]
    rw [e1, e2, e3]
    refine Ev.neg (by omega) (Ev.bind (half_ev n hn2 (by omega)) (Ev.pos (by omega) (Ev.pos (by omega) (Ev.pos (by omega) ?_))))
    by_cases c : i < halfN n
    · rw [depthM_left n i hn2 c] at hp
      have i1 := ih (halfN n) i d q hq (by omega) (by omega) c (by omega) hd hsq
      have hz := climbR_size (halfN n) i d q hd
      have hle := climbR_length _ (halfN n) i d q rfl
      have hdl2 := depthM_le (halfN n) i
      have z1 := knotT_size (climbR (halfN n) i d q).1 x
      rw [climbR_left n i d q x c]
      exact Ev.pos (by omega) (Ev.bind i1 (Ev.call (knotText_f _ _ (by omega)) (Ev.pos (by omega) (Ev.bind (refsum_ev _ (by omega)) (Ev.some_ rfl)))))
    · rw [depthM_right n i hn2 c] at hp
      have i1 := ih (n - halfN n) (i - halfN n) d q hq (by omega) (by omega) (by omega) (by omega) hd hsq
      have hz := climbR_size (n - halfN n) (i - halfN n) d q hd
      have hle := climbR_length _ (n - halfN n) (i - halfN n) d q rfl
      have hdl2 := depthM_le (n - halfN n) (i - halfN n)
      have z1 := knotT_size x (climbR (n - halfN n) (i - halfN n) d q).1
      have e4 : wrap64 ((n : Int) - (halfN n : Int)) = ((n - halfN n : Nat) : Int) := by unfold wrap64; omega
      have e5 : wrap64 ((i : Int) - (halfN n : Int)) = ((i - halfN n : Nat) : Int) := by unfold wrap64; omega
      rw [climbR_right n i d q x c, e4, e5]
      exact Ev.neg (by omega) (Ev.bind i1 (Ev.call (knotText_f _ _ (by omega)) (Ev.pos (by omega) (Ev.bind (refsum_ev _ (by omega)) (Ev.some_ rfl)))))

/-- The error of what can't be folded. -/
def foldsP (n i : Int) (d : ByteArray) (p : List ByteArray) : Int :=
  if inP n i = true ∧ d.size = 32 then (if (p.length : Int) = depthR n i ∧ ∀ x ∈ p, x.size = 32 then 0 else 3) else 1
theorem shortB_iff (x : ByteArray) : shortB x = true ↔ x.size ≠ 32 := by
  unfold shortB
  rw [bne_iff_ne]
  omega
theorem any_short (p : List ByteArray) : p.any shortB = true ↔ ¬ ∀ x ∈ p, x.size = 32 := by
  rw [List.any_eq_true]
  constructor
  · rintro ⟨x, hx, h⟩ hall
    exact (shortB_iff x).1 h (hall x hx)
  · intro h
    apply Classical.byContradiction
    intro hn
    apply h
    intro x hx
    apply Classical.byContradiction
    intro h32
    exact hn ⟨x, hx, (shortB_iff x).2 h32⟩
theorem folds_f (n i : Int) (d : ByteArray) (p : List ByteArray) : merkle_folds.f n i d p = some (foldsP n i d p) := by
  unfold merkle_folds.f foldsP
  rw [in_f]
  simp only [Option.bind_some]
  by_cases a : inP n i = true
  · rw [if_pos a]
    by_cases b : d.size = 32
    · rw [if_neg (by rw [shortB_iff]; simpa using b), if_pos (show inP n i = true ∧ d.size = 32 from ⟨a, b⟩), Depth_f 11 n i]
      simp only [Option.bind_some]
      by_cases c : (p.length : Int) = depthR n i
      · rw [if_pos c]
        by_cases e : ∀ x ∈ p, x.size = 32
        · rw [if_neg (by rw [any_short]; simpa using e), if_pos ⟨c, e⟩]
        · rw [if_pos ((any_short p).2 e), if_neg (fun h => e h.2)]
      · rw [if_neg c, if_neg (fun h => c h.1)]
    · rw [if_pos ((shortB_iff d).2 b), if_neg (fun h => b h.2)]
  · rw [if_neg a, if_neg (fun h => a h.1)]
theorem refdepth_in (n i : Int) : depthR n i < 0 ↔ ¬ inP n i = true := by
  unfold depthR
  by_cases a : inP n i = true
  · rw [if_pos a]
    constructor
    · intro h
      omega
    · intro h
      exact absurd a h
  · rw [if_neg a]
    exact ⟨fun _ => a, fun _ => by omega⟩
theorem reffolds_l0 (p : List ByteArray) (hl : p.length ≤ 1000) (e : Nat) : ∀ j : Nat, j + e = p.length → Ev (fun k => mosaicref03_folds.l0 k p (j : Int)) (if ∀ x ∈ p.drop j, x.size = 32 then 0 else 3) := by
  induction e with
  | zero =>
    intro j hj
    refine Ev.succ ?_
    simp only [mosaicref03_folds.l0]
    refine Ev.neg (by omega) (Ev.some_ ?_)
    rw [List.drop_of_length_le (by omega)]
    simp
  | succ e ih =>
    intro j hj
    refine Ev.succ ?_
    simp only [mosaicref03_folds.l0]
    rw [rdOf_at, wrap_succ j (by omega), drop_getD p j (by omega)]
    refine Ev.pos (by omega) (Ev.pos (by omega) ?_)
    have next := ih (j + 1) (by omega)
    by_cases c : (p.getD j ByteArray.empty).size = 32
    · refine Ev.pos (by omega) (next.to ?_)
      by_cases a : ∀ x ∈ p.drop (j + 1), x.size = 32
      · rw [if_pos a, if_pos (fun x hx => (List.mem_cons.1 hx).elim (fun h => h ▸ c) (a x))]
      · rw [if_neg a, if_neg (fun h => a fun x hx => h x (List.mem_cons.2 (.inr hx)))]
    · refine Ev.neg (by omega) (Ev.some_ ?_)
      rw [if_neg (fun h => c (h _ (List.mem_cons.2 (.inl rfl))))]
theorem refFolds_ev (n i : Int) (d : ByteArray) (p : List ByteArray) (hl : p.length ≤ 1000) : Ev (fun k => mosaicref03_folds.f k n i d p) (foldsP n i d p) := by
  unfold mosaicref03_folds.f foldsP
  have j1 : ∀ b : Bool, b = true → Ev (fun k => mosaicref03_folds.j0 k n i p b) 1 := by
    rintro b rfl
    refine Ev.succ ?_
    simp only [mosaicref03_folds.j0]
    exact Ev.pos trivial (Ev.some_ rfl)
  refine Ev.bind (refDepth_ev n i) ?_
  by_cases a : inP n i = true
  · have ha : ¬ depthR n i < 0 := fun h => (refdepth_in n i).1 h a
    refine Ev.neg ha ?_
    by_cases b : d.size = 32
    · rw [if_pos ⟨a, b⟩, show ((d.size : Int) != 32) = false by rw [b]; rfl]
      refine Ev.succ ?_
      simp only [mosaicref03_folds.j0]
      refine Ev.neg (by simp) (Ev.bind (refDepth_ev n i) ?_)
      by_cases c : (p.length : Int) = depthR n i
      · refine Ev.pos c ((reffolds_l0 p hl p.length 0 (by omega)).to ?_)
        rw [List.drop_zero]
        by_cases e : ∀ x ∈ p, x.size = 32
        · rw [if_pos e, if_pos ⟨c, e⟩]
        · rw [if_neg e, if_neg (fun h => e h.2)]
      · refine Ev.neg c (Ev.some_ ?_)
        rw [if_neg (fun h => c h.1)]
    · rw [if_neg (fun h => b h.2)]
      exact j1 _ (by rw [bne_iff_ne]; omega)
  · rw [if_neg (fun h => a h.1)]
    exact Ev.pos ((refdepth_in n i).2 a) (j1 _ rfl)
theorem foldsP_zero {n i : Int} {d : ByteArray} {p : List ByteArray} (h : foldsP n i d p = 0) :
    (1 ≤ n.toNat ∧ n.toNat ≤ 256 ∧ i.toNat < n.toNat ∧ ((n.toNat : Nat) : Int) = n ∧ ((i.toNat : Nat) : Int) = i) ∧ p.length = depthM n.toNat i.toNat ∧ d.size = 32 ∧ ∀ x ∈ p, x.size = 32 := by
  unfold foldsP at h
  split at h
  · rename_i hab
    split at h
    · rename_i hcd
      have a := of_decide_eq_true hab.1
      refine ⟨by omega, ?_, hab.2, hcd.2⟩
      have := hcd.1
      unfold depthR at this
      rw [if_pos hab.1] at this
      omega
    · exact absurd h (by decide)
  · exact absurd h (by decide)
/-- What climbing comes to. -/
def foldC (n i : Int) (d : ByteArray) (p : List ByteArray) : ByteArray × List ByteArray := climbR n.toNat i.toNat d p
theorem Fold_ev (n i : Int) (d : ByteArray) (p : List ByteArray) : Ev (fun k => merkle_Fold.f k n i d p) (if foldsP n i d p = 0 then ((foldC n i d p).1, 0) else ((⟨#[]⟩ : ByteArray), foldsP n i d p)) := by
  unfold merkle_Fold.f
  refine Ev.call (folds_f n i d p) ?_
  by_cases h : foldsP n i d p = 0
  · obtain ⟨⟨a, b, c, e, f⟩, g, j, k⟩ := foldsP_zero h
    have := climb_ev _ _ d p a b c g j k
    rw [e, f] at this
    rw [if_pos h]
    exact Ev.pos h (Ev.bind this (Ev.some_ rfl))
  · rw [if_neg h]
    exact Ev.neg h (Ev.some_ rfl)
theorem refFold_ev (n i : Int) (d : ByteArray) (p : List ByteArray) (hl : p.length ≤ 1000) : Ev (fun k => mosaicref03_Fold.f k n i d p) (if foldsP n i d p = 0 then ((foldC n i d p).1, 0) else ((⟨#[]⟩ : ByteArray), foldsP n i d p)) := by
  unfold mosaicref03_Fold.f
  refine Ev.bind (refFolds_ev n i d p hl) ?_
  by_cases h : foldsP n i d p = 0
  · obtain ⟨⟨a, b, c, e, f⟩, g, j, k⟩ := foldsP_zero h
    have := refclimb_ev _ _ _ d p rfl a b c g j k
    rw [e, f] at this
    rw [if_pos h]
    exact Ev.pos h (Ev.bind this (Ev.some_ rfl))
  · rw [if_neg h]
    exact Ev.neg h (Ev.some_ rfl)
def climbP (n i : Int) (d : ByteArray) (p : List ByteArray) : List ByteArray := if foldsP n i d p = 0 then (foldC n i d p).2 else []
theorem Climb_ev (n i : Int) (d : ByteArray) (p : List ByteArray) : Ev (fun k => merkle_Climb.f k n i d p) (climbP n i d p) := by
  unfold merkle_Climb.f climbP
  refine Ev.call (folds_f n i d p) ?_
  by_cases h : foldsP n i d p = 0
  · obtain ⟨⟨a, b, c, e, f⟩, g, j, k⟩ := foldsP_zero h
    have := climb_ev _ _ d p a b c g j k
    rw [e, f] at this
    rw [if_pos h]
    exact Ev.pos h (Ev.bind this (Ev.some_ rfl))
  · rw [if_neg h]
    exact Ev.neg h (Ev.some_ rfl)
theorem refClimb_ev (n i : Int) (d : ByteArray) (p : List ByteArray) (hl : p.length ≤ 1000) : Ev (fun k => mosaicref03_Climb.f k n i d p) (climbP n i d p) := by
  unfold mosaicref03_Climb.f climbP
  refine Ev.bind (refFolds_ev n i d p hl) ?_
  by_cases h : foldsP n i d p = 0
  · obtain ⟨⟨a, b, c, e, f⟩, g, j, k⟩ := foldsP_zero h
    have := refclimb_ev _ _ _ d p rfl a b c g j k
    rw [e, f] at this
    rw [if_pos h]
    exact Ev.pos h (Ev.bind this (Ev.some_ rfl))
  · rw [if_neg h]
    exact Ev.neg h (Ev.some_ rfl)
theorem Check_ev (r : ByteArray) (n i : Int) (d : ByteArray) (p : List ByteArray) : Ev (fun k => merkle_Check.f k r n i d p) (decide (foldsP n i d p = 0 ∧ (foldC n i d p).1 = r)) := by
  unfold merkle_Check.f
  refine Ev.bind (Fold_ev n i d p) ?_
  by_cases h : foldsP n i d p = 0
  · rw [if_pos h]
    refine Ev.pos rfl (Ev.some_ ?_)
    by_cases c : (foldC n i d p).1 = r
    · rw [decide_eq_true ⟨h, c⟩, beq_iff_eq]
      rw [c]
    · rw [decide_eq_false (fun x => c x.2), beq_eq_false_iff_ne]
      intro e
      apply c
      rw [Go.ByteArray.toList_eq, Go.ByteArray.toList_eq] at e
      exact ByteArray.ext (Array.toList_inj.1 e)
  · rw [if_neg h, decide_eq_false (fun x => h x.1)]
    exact Ev.neg h (Ev.some_ rfl)
theorem refCheck_ev (r : ByteArray) (n i : Int) (d : ByteArray) (p : List ByteArray) (hl : p.length ≤ 1000) : Ev (fun k => mosaicref03_Check.f k r n i d p) (decide (foldsP n i d p = 0 ∧ (foldC n i d p).1 = r)) := by
  unfold mosaicref03_Check.f
  refine Ev.bind (refFold_ev n i d p hl) ?_
  by_cases h : foldsP n i d p = 0
  · rw [if_pos h]
    refine Ev.pos rfl (Ev.some_ ?_)
    by_cases c : (foldC n i d p).1 = r
    · rw [decide_eq_true ⟨h, c⟩, beq_iff_eq]
      rw [c]
    · rw [decide_eq_false (fun x => c x.2), beq_eq_false_iff_ne]
      intro e
      apply c
      rw [Go.ByteArray.toList_eq, Go.ByteArray.toList_eq] at e
      exact ByteArray.ext (Array.toList_inj.1 e)
  · rw [if_neg h, decide_eq_false (fun x => h x.1)]
    exact Ev.neg h (Ev.some_ rfl)
def roadP (n i : Int) (s : ByteArray) (p : List ByteArray) : List ByteArray := if foldsP n i (leafD s) p = 0 then leafT s :: (foldC n i (leafD s) p).2 else []
theorem foldC_length (n i : Int) (d : ByteArray) (p : List ByteArray) : (foldC n i d p).2.length = p.length := climbR_length _ _ _ _ _ rfl
theorem Road_ev (n i : Int) (s : ByteArray) (p : List ByteArray) (hs : s.size ≤ 65535) (hl : p.length ≤ 1000) : Ev (fun k => merkle_Road.f k n i s p) (roadP n i s p) := by
  unfold merkle_Road.f roadP
  refine Ev.call (leaf_f s hs) (Ev.call (folds_f n i (leafD s) p) ?_)
  by_cases h : foldsP n i (leafD s) p = 0
  · have hc := Climb_ev n i (leafD s) p
    have hlen := foldC_length n i (leafD s) p
    unfold climbP at hc
    rw [if_pos h] at hc ⊢
    exact Ev.pos h (Ev.pos (by omega) (Ev.some_bind (Ev.bind hc (Ev.pos (by simp; omega) (Ev.some_ rfl)))))
  · rw [if_neg h]
    exact Ev.neg h (Ev.some_ rfl)
theorem refroad_l0 (r : ByteArray) (l acc : List ByteArray) (hl : l.length ≤ 1000) (e : Nat) : ∀ (j : Nat), j + e = l.length → acc.length ≤ 1000 → Ev (fun k => mosaicref03_Road.l0 k (acc ++ l.take j) (j : Int) r l) (acc ++ l) := by
  induction e with
  | zero =>
    intro j hj ha
    refine Ev.succ ?_
    simp only [mosaicref03_Road.l0]
    refine Ev.neg (by omega) (Ev.some_ ?_)
    rw [List.take_of_length_le (by omega)]
  | succ e ih =>
    intro j hj ha
    refine Ev.succ ?_
    simp only [mosaicref03_Road.l0]
    have := ih (j + 1) (by omega) ha
    rw [take_getD l j (by omega), ← List.append_assoc] at this
    rw [rdOf_at, wrap_succ j (by omega)]
    exact Ev.pos (by omega) (Ev.pos (by omega) (Ev.pos (by simp; omega) this))
theorem refRoad_ev (n i : Int) (s : ByteArray) (p : List ByteArray) (hs : s.size ≤ 65535) (hl : p.length ≤ 1000) : Ev (fun k => mosaicref03_Road.f k n i s p) (roadP n i s p) := by
  unfold mosaicref03_Road.f roadP
  have hz := leafT_size s
  refine Ev.call (leafText_f s hs) (Ev.bind (refsum_ev _ (by omega)) (Ev.bind (refFolds_ev n i (leafD s) p hl) ?_))
  by_cases h : foldsP n i (leafD s) p = 0
  · obtain ⟨⟨a, b, c, e, f⟩, g, j, k⟩ := foldsP_zero h
    have hc := refclimb_ev _ _ _ (leafD s) p rfl a b c g j k
    rw [e, f] at hc
    have hlen := foldC_length n i (leafD s) p
    have hr := refroad_l0 (foldC n i (leafD s) p).1 (foldC n i (leafD s) p).2 [leafT s] (by omega) _ 0 (Nat.zero_add _) (by simp)
    rw [List.take_zero, List.append_nil] at hr
    rw [if_pos h]
    exact Ev.pos h (Ev.call (leafText_f s hs) (Ev.bind hc hr))
  · rw [if_neg h]
    exact Ev.neg h (Ev.some_ rfl)
end Go.Proofs.Ytelcaepenfjloaa.Pure
/-! #### PureMerkleFolds -/
/- What any digest folds to by any path, or the error, whether it comes to any root, and the texts on the road, are the document's; up to 12 digests of up to 100 bytes, texts of up to 1,100. -/
namespace Go.Proofs.Ytelcaepenfjloaa.Pure
open Go.RowKit Go.Proofs.Ytelcaepenfjloaa.Print Go.Proofs.YtelcaepenfjloaaW.PrintWords Go.Proofs.YtelcaepenfjloaaW.PrintLast
set_option linter.unusedVariables false

theorem folds_j1 (root s : ByteArray) (n i : Int) (d : ByteArray) (p : List ByteArray) (b : Bool) (h : b = true) : Ev (fun k => mosaiclaw03_MerkleFolds.j0 k root s b n i d p) true := by
  subst h
  refine Ev.succ ?_
  simp only [mosaiclaw03_MerkleFolds.j0]
  exact Ev.pos trivial (Ev.bind awake03 (Ev.some_ rfl))
theorem MerkleFolds : mosaiclaw03_MerkleFolds.Pure := by
  intro n i d p root s
  intros
  refine Ev.rounds ?_
  unfold mosaiclaw03_MerkleFolds.f
  obtain ⟨b, hb, hf⟩ := few_ev p 12 100 (by omega)
  refine Ev.bind hb ?_
  cases b with
  | false => exact Ev.neg (by simp) (folds_j1 root s n i d p true rfl)
  | true =>
    obtain ⟨h1, h2⟩ := hf rfl
    refine Ev.pos rfl ?_
    by_cases a : (d.size : Int) > 100
    · exact Ev.pos a (folds_j1 root s n i d p true rfl)
    by_cases c : (root.size : Int) > 100
    · exact Ev.neg a (Ev.pos c (folds_j1 root s n i d p true rfl))
    refine Ev.neg a (Ev.neg c ?_)
    by_cases e : (s.size : Int) > 1100
    · exact folds_j1 root s n i d p _ (decide_eq_true e)
    rw [decide_eq_false e]
    refine Ev.succ ?_
    simp only [mosaiclaw03_MerkleFolds.j0]
    have hc : (climbP n i d p).length ≤ 12 := by
      have := foldC_length n i d p
      unfold climbP
      split
      · omega
      · simp
    have hr : (roadP n i s p).length ≤ 13 := by
      have := foldC_length n i (leafD s) p
      unfold roadP
      split
      · rw [List.length_cons]
        omega
      · simp
    exact Ev.neg (by simp) (Ev.bind (Fold_ev n i d p) (Ev.bind (refFold_ev n i d p (by omega)) (Ev.bind (Climb_ev n i d p) (Ev.bind (refClimb_ev n i d p (by omega)) (Ev.bind (same_ev _ (by omega)) (Ev.pos rfl (Ev.bind awake03 (Ev.pos rfl (Ev.pos rfl (Ev.pos rfl
      (Ev.bind (Check_ev root n i d p) (Ev.bind (refCheck_ev root n i d p (by omega)) (Ev.pos (by simp) (Ev.bind (Road_ev n i s p (by omega) (by omega)) (Ev.bind (refRoad_ev n i s p (by omega) (by omega)) (Ev.bind (same_ev _ (by omega)) (Ev.some_ rfl)))))))))))))))))
end Go.Proofs.Ytelcaepenfjloaa.Pure
/-! #### LawMerkleFolds -/
/- The given statement MerkleFoldsSaid is proved: the law mosaiclaw03_MerkleFolds returns true for every input, without a panic; out of its pure statement (YtelcaepenfjloaaPureMerkleFolds) and the walks of the functions that it reaches; no condition beyond the statement's own. -/
namespace Go.Proofs.Ytelcaepenfjloaa.merkleFolds
open Go.ChangeShapes Go.WideShapes Go.ChangeAt Go.RowKit Go.Proofs.Ytelcaepenfjloaa.Print Go.Proofs.YtelcaepenfjloaaW.PrintWords Go.Proofs.Ytelcaepenfjloaa.Open
open Go.ChangeMaps (open_string shut_string)
set_option linter.unusedVariables false
set_option linter.unusedSimpArgs false
theorem own : ownKnob Try.prog.godebug = none := by kernel_rfl
theorem laidOut : laidOutB Try.prog = true := by kernel_rfl
set_option maxRecDepth 100000 in
theorem lifted (os : Os) (started : os.Started) (H : Type) (enc : TypeId × Value → H) :
    ReturnsInHanded {} Try.checked os 21 .any (Rows.merkleFoldsSpec.pre6 enc Try.prog Try.f21 Rows.merkleFoldsRow.domain false) (Rows.merkleFoldsSpec.post enc Try.prog Try.f21 false true false false) := by
  refine returnsInHanded_of_change_sized (C := Try.checked) own started (by kernel_rfl) Try.func21
    (ChangeSpec.witness6 (enc := enc) (C := Try.checked) false ⟨#[], #[.agg #[.int .i64 0, .int .i64 0, .string ByteArray.empty, .slice none 0 0], .string ByteArray.empty, .string ByteArray.empty], []⟩ 8 (by kernel_rfl) (by kernel_rfl) (by kernel_rfl) (by kernel_rfl)) ?_
  intro W base args ds gs before hval0 hW hcnd hsz0 _
  have hval : ∀ (j : Nat) t v, Try.f21.params[j]? = some t → args[j]? = some v → Value.okWide Try.prog W .any base t v := hval0
  have hW' := hW
  obtain ⟨p, q, hA0, hV, rfl, hfz, hnd⟩ := hW
  have hA : DataW.TrodAll enc Try.prog W 0 (fun _ => true) true Try.f21.params.toList args.toList ds p := hA0
  rw [Try.params21] at hA hval
  obtain ⟨v0, vs0, d0, ds0, p0, q0, hargs, rfl, rfl, h0, r0⟩ := trodAll_cons hA
  obtain ⟨v1, vs1, d1, ds1, p1, q1, rfl, rfl, rfl, h1, r1⟩ := trodAll_cons r0
  obtain ⟨v2, vs2, d2, ds2, p2, q2, rfl, rfl, rfl, h2, r2⟩ := trodAll_cons r1
  obtain ⟨rfl, rfl, rfl⟩ := trodAll_nil r2
  obtain rfl : args = #[v0, v1, v2] := by cases args; simp_all
  obtain ⟨rfl, rfl⟩ := trodVars_none hV
  have lt0 : ∀ x ∈ p0, x.block < W.heap.size := by obtain ⟨m, hm⟩ := h0; exact DataW.trod_lt m _ _ _ hm
  have k0 := h0
  obtain ⟨f0, hf0⟩ := h0
  obtain ⟨x0, hK0, hq0⟩ := opens101.2 enc W f0 _ _ hf0
  obtain ⟨A0_3, c0_3, hcs0, hc0_3, hr0_3⟩ := k101_open hK0
  obtain rfl := arg_agg Try.underlying101 (hval 0 101 v0 rfl rfl) hcs0
  obtain ⟨a1, rfl, rfl, rfl, y1⟩ := open_string Try.underlying9 (hval 1 9 v1 rfl rfl) h1
  obtain ⟨a2, rfl, rfl, rfl, y2⟩ := open_string Try.underlying9 (hval 2 9 v2 rfl rfl) h2
  clear hA0 hval0 hsz0
  obtain ⟨kk, hkk⟩ := Pure.MerkleFolds (x0.f0) (x0.f1) (x0.f2) (x0.f3) (a1) (a2) hq0.1 hq0.2.1 hq0.2.2.1 hq0.2.2.2 y1 y2
  refine (mosaiclaw03_MerkleFolds.callsT kk (x0.f0) (x0.f1) (x0.f2) A0_3 c0_3 (x0.f3) a1 a2 W hr0_3 hc0_3 hkk).mono ?_
  rintro e W' ⟨rfl, hd_⟩
  have bel : Below W.heap.size W W' := hd_
  exact ⟨_, rfl, _, _, _, [], _, [], hW', trodAll_mk1 (shut_bool Try.underlying4 _), (trodAll_cons_mk (Below.trod laidOut (by kernel_rfl) (of_decide_eq_true (by kernel_rfl)) k0 bel lt0) (trodAll_cons_mk (shut_string Try.underlying9 y1) (trodAll_cons_mk (shut_string Try.underlying9 y2) trodAll_mk0))), rfl, bel.frame _, fun h => by cases h⟩
theorem facts : joinedFacts Try.pinned.checked.prog 21 Try.f21 Rows.merkleFoldsSpec Rows.merkleFoldsRow = true := by
  unfold joinedFacts
  simp only [Bool.and_eq_true]
  repeat' apply And.intro
  any_goals (with_reducible exact Fct.mayEnter)
  any_goals ((with_reducible refine Fct.lifts _ ?_); rfl)
  any_goals ((with_reducible refine Fct.make_ _ ?_); rfl)
  all_goals (as_aux_lemma => kernel_rfl)
theorem over : Rows.merkleFoldsRow.holds Try.pinned (OpenSpec.ofChange Rows.merkleFoldsSpec) :=
  OpenClaim.holds_of_wide 21 Try.f21 rfl rfl rfl rfl rfl rfl rfl ⟨rfl, rfl, rfl, rfl, rfl⟩ rfl rfl rfl rfl rfl (by as_aux_lemma => kernel_rfl) Try.func21 facts
    (of_decide_eq_true (by as_aux_lemma => kernel_rfl)) (by unfold Func.isWrapper; first | (rw [if_pos (by decide +kernel)]; as_aux_lemma => kernel_rfl) | (rw [if_neg (by decide +kernel)]; exact ⟨rfl, rfl⟩))
    (fun os started H enc _ => lifted os started H enc)
theorem proved : Rows.MerkleFoldsSaid := over
#print axioms proved
end Go.Proofs.Ytelcaepenfjloaa.merkleFolds
namespace Go.Proofs.Ytelcaepenfjloaa
/-- The row, under a short name, for the claim. -/
theorem merkleFolds_holds : Rows.MerkleFoldsSaid := merkleFolds.proved
end Go.Proofs.Ytelcaepenfjloaa
