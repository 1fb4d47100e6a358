/- The proof of the statement MerkleDepths of the seat, part 2 of 2: the functions that it reaches, as plain functions, with the walks that show it, and what they come to; the last part ends in the row. No condition beyond the statement's own. -/
import Derived.Test.YtelcaepenfjloaaPrK
import Derived.Test.YtelcaepenfjloaaMaShaTop
import Derived.Test.YtelcaepenfjloaaPureSha
import Derived.Test.YtelcaepenfjloaaPureW
import Derived.Test.YtelcaepenfjloaaRows
import Derived.Test.YtelcaepenfjloaaFct
import Derived.WalkKit
import Derived.ProofKit
import Derived.OpenShut
import Derived.ShutString
import Derived.ChangeOld
import Derived.Below
import Derived.SizedLaws
import Derived.Carry
import Derived.Test.YtelcaepenfjloaaBMerkleDepths1
/-! #### Pr47 -/
-- By the kit's print, called by a program of this session with functions that are proved by hand.
namespace Go.Proofs.Ytelcaepenfjloaa.Print
open Go.RowKit Go.Proofs.YtelcaepenfjloaaW.PrintWords Go.Proofs.YtelcaepenfjloaaW.PrintLast Go.Proofs.YtelcaepenfjloaaW.PrintMore
attribute [local go_sem] max2_int min2_int max_two min_two max_three min_three max_four min_four
set_option linter.unusedVariables false
set_option linter.unusedSimpArgs false

/-! ### mosaicref03_Root: function 47 -/
def mosaicref03_Root.f (k : Nat) (l0 : List ByteArray) : Option (ByteArray × Int) := (mosaicref03_May.f k l0).bind fun t315 => (if t315 = 0 then ((mosaicref03_Top.f k l0).bind fun t316 => (some (t316, 0))) else (some ((⟨#[]⟩ : ByteArray), t315)))
theorem mosaicref03_Root.mono : ∀ a0 k, LeO (mosaicref03_Root.f k a0) (mosaicref03_Root.f (k + 1) a0) := by
 intro a0 k
 unfold mosaicref03_Root.f
 repeat' first
   | (with_reducible exact mosaicref03_May.mono _ _)
   | (with_reducible exact mosaicref03_Top.mono _ _)
   | (with_reducible exact LeO.refl _)
   | (with_reducible exact LeO.none _)
   | (with_reducible refine LeO.ite ?_ ?_)
   | (with_reducible refine LeO.bind ?_ (fun _ => ?_))
   | exact mosaicref03_May.mono _ _
   | exact mosaicref03_Top.mono _ _
   | exact LeO.none _
   | refine LeO.ite ?_ ?_
   | refine LeO.bind ?_ (fun _ => ?_)
set_option maxHeartbeats 8000000 in
set_option maxRecDepth 100000 in
theorem mosaicref03_Root.calls (k : Nat) (A0 : Option Addr) (c0 : Nat) (l0 : List ByteArray) (r1 : ByteArray) (r2 : Int) (w : World) (hr0 : Kd.C Kd.string w A0 l0.length l0) (hc0 : l0.length ≤ c0) (h : mosaicref03_Root.f k l0 = some (r1, r2)) :
  Calls Try.prog 47 #[.slice A0 l0.length c0] w fun e w' => e = .returned (.tuple #[.string r1, .int .i64 r2]) ∧ Below w.heap.size w w' := by
 have HR0 := Aside0.mk hr0
 have HC0 := Aside0.mk hc0
 clear hr0 hc0
 have HB := Aside0.mk (Below.refl w.heap.size w)
 have H : ((mosaicref03_May.f k l0).bind fun t315 => (if t315 = 0 then ((mosaicref03_Top.f k l0).bind fun t316 => (some (t316, 0))) else (some ((⟨#[]⟩ : ByteArray), t315)))) = some (r1, r2) := h
 clear h
 replace H := Option.bind_eq_some_iff.mp H
 obtain ⟨t315, A20, H⟩ := H
 replace H : (if t315 = 0 then ((mosaicref03_Top.f k l0).bind fun t316 => (some (t316, 0))) else (some ((⟨#[]⟩ : ByteArray), t315))) = some (r1, r2) := H
 have A2 := Aside0.mk A20
 clear A20
 by_cases c3 : t315 = 0
 ·
  rw [if_pos c3] at H
  have c3b0 : (t315 == 0) = true := beq_iff_eq.mpr c3
  have c3b1 : (t315 != 0) = false := bne_eq_false_iff_eq.mpr c3
  clear c3
  replace H := Option.bind_eq_some_iff.mp H
  obtain ⟨t316, A40, H⟩ := H
  replace H : (some (t316, 0)) = some (r1, r2) := H
  have A4 := Aside0.mk A40
  clear A40
  simp only [Option.some.injEq, Prod.mk.injEq] at H
  obtain ⟨rfl, rfl⟩ := H
  go_enter Try.func47, Try.ntmps47
  go_wp2_with (first | ((with_reducible refine gate_callee (f := 94) rfl ?_); refine goesL_ (some 6) rfl rfl Try.func94 (by kernel_rfl) rfl #[.slice A0 l0.length c0] rfl (by (try simp only [List.map_toArray, List.map_cons, List.map_nil]); first | done | rfl | (simp only [List.length_drop, List.length_take]; rfl)) ?_; (with_reducible refine (mosaicref03_May.calls k _ _ l0 t315 _ ?side1 ?side2 A2.out).mono ?_); (case side1 => repeat (first | exact HR0.out | (with_reducible refine Kd.C_alloc ?_ _) | (with_reducible refine Kd.C_drewN ?_ _) | (with_reducible refine Kd.C_drew ?_))); (case side2 => exact HC0.out); rintro e w' ⟨rfl, ⟨nd, rfl⟩⟩; refine ⟨_, rfl, ?_⟩) | ((with_reducible refine gate_callee (f := 95) rfl ?_); refine goesL_ (some 11) rfl rfl Try.func95 (by kernel_rfl) rfl #[.slice A0 l0.length c0] rfl (by (try simp only [List.map_toArray, List.map_cons, List.map_nil]); first | done | rfl | (simp only [List.length_drop, List.length_take]; rfl)) ?_; (with_reducible refine (mosaicref03_Top.calls k _ _ l0 t316 _ ?side1 ?side2 A4.out).mono ?_); (case side1 => repeat (first | exact HR0.out | (with_reducible refine Kd.C_alloc ?_ _) | (with_reducible refine Kd.C_drewN ?_ _) | (with_reducible refine Kd.C_drew ?_))); (case side2 => exact HC0.out); rintro e w5 ⟨rfl, hb⟩; refine ⟨_, rfl, ?_⟩; have n0_ := Aside0.mk (below_step (by repeat (first | (with_reducible first | exact HB.out | apply below_alloc | apply pw_below_drewN | apply below_drew1) | exact HB.out)) hb); clear HB; have HB := n0_; clear n0_; (try clear hb); (try clear hb2); (try clear hk); (try clear hi)))
  go_ret2
  exact ⟨by first | rfl | (simp [errW_none, errW_some] <;> rfl) | (simp [*, errW_none, errW_some] <;> rfl), by repeat (first | (with_reducible first | exact HB.out | apply below_alloc | apply pw_below_drewN | apply below_drew1) | exact HB.out)⟩
 ·
  rw [if_neg c3] at H
  have c3b0 : (t315 == 0) = false := beq_eq_false_iff_ne.mpr c3
  have c3b1 : (t315 != 0) = true := bne_iff_ne.mpr c3
  simp only [Option.some.injEq, Prod.mk.injEq] at H
  obtain ⟨rfl, rfl⟩ := H
  go_enter Try.func47, Try.ntmps47
  go_wp2_with (first | ((with_reducible refine gate_callee (f := 94) rfl ?_); refine goesL_ (some 6) rfl rfl Try.func94 (by kernel_rfl) rfl #[.slice A0 l0.length c0] rfl (by (try simp only [List.map_toArray, List.map_cons, List.map_nil]); first | done | rfl | (simp only [List.length_drop, List.length_take]; rfl)) ?_; (with_reducible refine (mosaicref03_May.calls k _ _ l0 t315 _ ?side1 ?side2 A2.out).mono ?_); (case side1 => repeat (first | exact HR0.out | (with_reducible refine Kd.C_alloc ?_ _) | (with_reducible refine Kd.C_drewN ?_ _) | (with_reducible refine Kd.C_drew ?_))); (case side2 => exact HC0.out); rintro e w' ⟨rfl, ⟨nd, rfl⟩⟩; refine ⟨_, rfl, ?_⟩))
  go_ret2
  exact ⟨by first | rfl | (simp [errW_none, errW_some] <;> rfl) | (simp [*, errW_none, errW_some] <;> rfl), by repeat (first | (with_reducible first | exact HB.out | apply below_alloc | apply pw_below_drewN | apply below_drew1) | exact HB.out)⟩

end Go.Proofs.Ytelcaepenfjloaa.Print
/-! #### Pr98 -/
-- By the kit's print, called by a program of this session with functions that are proved by hand.
namespace Go.Proofs.Ytelcaepenfjloaa.Print
open Go.RowKit Go.Proofs.YtelcaepenfjloaaW.PrintWords Go.Proofs.YtelcaepenfjloaaW.PrintLast Go.Proofs.YtelcaepenfjloaaW.PrintMore
attribute [local go_sem] max2_int min2_int max_two min_two max_three min_three max_four min_four
set_option linter.unusedVariables false
set_option linter.unusedSimpArgs false

/-! ### mosaicref03_way: function 98 -/
def mosaicref03_way.f : Nat → List ByteArray → Int → Option (List ByteArray)
 | 0, _, _ => none
 | k + 1, l0, a1 => if (l0.length : Int) = 1 then (some ([] : List ByteArray)) else ((mosaicref03_half.f k (l0.length : Int)).bind fun t336 => (if a1 < t336 then (if 0 ≤ t336 then (if t336 ≤ (l0.length : Int) then ((mosaicref03_way.f k (l0.take (t336 : Int).toNat) a1).bind fun t338 => ((mosaicref03_Top.f k (l0.drop (t336 : Int).toNat)).bind fun t342 => (if t338.length < 8796093022208 then (some (t338 ++ [t342])) else (none)))) else (none)) else (none)) else (if 0 ≤ t336 then (if t336 ≤ (l0.length : Int) then ((mosaicref03_way.f k (l0.drop (t336 : Int).toNat) (wrap64 (a1 - t336))).bind fun t347 => ((mosaicref03_Top.f k (l0.take (t336 : Int).toNat)).bind fun t351 => (if t347.length < 8796093022208 then (some (t347 ++ [t351])) else (none)))) else (none)) else (none))))
theorem mosaicref03_way.mono_l : ∀ k, (∀ y0 y1, LeO (mosaicref03_way.f k y0 y1) (mosaicref03_way.f (k + 1) y0 y1))
 | 0 => fun _ _ r h => by simp [mosaicref03_way.f] at h
 | k + 1 => by
  have ih0 := mosaicref03_way.mono_l k
  ·
   intro y0 y1
   unfold mosaicref03_way.f
   repeat' first
   | (with_reducible exact ih0 _ _)
   | (with_reducible exact mosaicref03_Top.mono _ _)
   | (with_reducible exact mosaicref03_half.mono _ _)
   | (with_reducible exact LeO.refl _)
   | (with_reducible exact LeO.none _)
   | (with_reducible refine LeO.ite ?_ ?_)
   | (with_reducible refine LeO.bind ?_ (fun _ => ?_))
   | exact ih0 _ _
   | exact mosaicref03_Top.mono _ _
   | exact mosaicref03_half.mono _ _
   | exact LeO.none _
   | refine LeO.ite ?_ ?_
   | refine LeO.bind ?_ (fun _ => ?_)
theorem mosaicref03_way.mono : ∀ a0 a1 k, LeO (mosaicref03_way.f k a0 a1) (mosaicref03_way.f (k + 1) a0 a1) := by
 intro a0 a1 k
 have ih0 := mosaicref03_way.mono_l k
 exact ih0 a0 a1
set_option maxHeartbeats 8000000 in
set_option maxRecDepth 100000 in
theorem mosaicref03_way.calls (k : Nat) : ∀ (A0 : Option Addr) (c0 : Nat) (l0 : List ByteArray) (a1 : Int) (r : List ByteArray) (w : World) (hr0 : Kd.C Kd.string w A0 l0.length l0) (hc0 : l0.length ≤ c0) (h : mosaicref03_way.f k l0 a1 = some r),
  Calls Try.prog 98 #[.slice A0 l0.length c0, .int .i64 a1] w fun e w' => ∃ v0_ : Value, e = .returned (v0_) ∧ Kd.R Kd.string 9 w' w.heap.size (fun _ => True) v0_ r ∧ Below w.heap.size w w' := by
 induction k using Nat.strongRecOn with
 | _ k ih =>
 intro A0 c0 l0 a1 r w hr0 hc0 h
 cases k with
 | zero => exact absurd h (by simp [mosaicref03_way.f])
 | succ k =>
 simp only [mosaicref03_way.f] at h
 have HR0 := Aside0.mk hr0
 have HC0 := Aside0.mk hc0
 clear hr0 hc0
 have HB := Aside0.mk (Below.refl w.heap.size w)
 have H : (if (l0.length : Int) = 1 then (some ([] : List ByteArray)) else ((mosaicref03_half.f k (l0.length : Int)).bind fun t336 => (if a1 < t336 then (if 0 ≤ t336 then (if t336 ≤ (l0.length : Int) then ((mosaicref03_way.f k (l0.take (t336 : Int).toNat) a1).bind fun t338 => ((mosaicref03_Top.f k (l0.drop (t336 : Int).toNat)).bind fun t342 => (if t338.length < 8796093022208 then (some (t338 ++ [t342])) else (none)))) else (none)) else (none)) else (if 0 ≤ t336 then (if t336 ≤ (l0.length : Int) then ((mosaicref03_way.f k (l0.drop (t336 : Int).toNat) (wrap64 (a1 - t336))).bind fun t347 => ((mosaicref03_Top.f k (l0.take (t336 : Int).toNat)).bind fun t351 => (if t347.length < 8796093022208 then (some (t347 ++ [t351])) else (none)))) else (none)) else (none))))) = some r := h
 clear h
 by_cases c3 : (l0.length : Int) = 1
 ·
  rw [if_pos c3] at H
  have c3b0 : ((l0.length : Int) == 1) = true := beq_iff_eq.mpr c3
  have c3b1 : ((l0.length : Int) != 1) = false := bne_eq_false_iff_eq.mpr c3
  clear c3
  obtain rfl := Option.some.inj H
  go_enter Try.func98, Try.ntmps98
  go_wp2
  go_ret
  exact ⟨_, by first | rfl | (simp [errW_none, errW_some] <;> rfl) | (simp [*, errW_none, errW_some] <;> rfl), by first | exact Kd.R_nil _ _ _ _ _ | exact Kd.N_nil _ _ _ _ _ | exact Kd.V_nil _ _ _ _ _ | exact Kd.Q_nil _ _ _ _ _ | exact Kd.S_nil _ _ _ _ _, by repeat (first | (with_reducible first | exact HB.out | apply below_alloc | apply pw_below_drewN | apply below_drew1) | exact HB.out)⟩
 ·
  rw [if_neg c3] at H
  have c3b0 : ((l0.length : Int) == 1) = false := beq_eq_false_iff_ne.mpr c3
  have c3b1 : ((l0.length : Int) != 1) = true := bne_iff_ne.mpr c3
  replace H := Option.bind_eq_some_iff.mp H
  obtain ⟨t336, A40, H⟩ := H
  replace H : (if a1 < t336 then (if 0 ≤ t336 then (if t336 ≤ (l0.length : Int) then ((mosaicref03_way.f k (l0.take (t336 : Int).toNat) a1).bind fun t338 => ((mosaicref03_Top.f k (l0.drop (t336 : Int).toNat)).bind fun t342 => (if t338.length < 8796093022208 then (some (t338 ++ [t342])) else (none)))) else (none)) else (none)) else (if 0 ≤ t336 then (if t336 ≤ (l0.length : Int) then ((mosaicref03_way.f k (l0.drop (t336 : Int).toNat) (wrap64 (a1 - t336))).bind fun t347 => ((mosaicref03_Top.f k (l0.take (t336 : Int).toNat)).bind fun t351 => (if t347.length < 8796093022208 then (some (t347 ++ [t351])) else (none)))) else (none)) else (none))) = some r := H
  have A4 := Aside0.mk A40
  clear A40
  by_cases c5 : a1 < t336
  ·
   rw [if_pos c5] at H
   have c5b0 : decide (a1 < t336) = true := decide_eq_true c5
   clear c5
   by_cases c6 : 0 ≤ t336
   ·
    rw [if_pos c6] at H
    have c6b0 := eq_true c6
    have c6b1 : decide (0 ≤ t336) = true := decide_eq_true c6
    clear c6
    by_cases c7 : t336 ≤ (l0.length : Int)
    ·
     rw [if_pos c7] at H
     have c7b0 := eq_true c7
     have c7b1 : decide (t336 ≤ (l0.length : Int)) = true := decide_eq_true c7
     clear c7
     replace H := Option.bind_eq_some_iff.mp H
     obtain ⟨t338, A80, H⟩ := H
     replace H : ((mosaicref03_Top.f k (l0.drop (t336 : Int).toNat)).bind fun t342 => (if t338.length < 8796093022208 then (some (t338 ++ [t342])) else (none))) = some r := H
     have A8 := Aside0.mk A80
     clear A80
     have c9b0 := eq_true (of_decide_eq_true (by first | (with_reducible assumption) | assumption) : 0 ≤ t336)
     have c10b0 := eq_true (of_decide_eq_true (by first | (with_reducible assumption) | assumption) : t336 ≤ (l0.length : Int))
     replace H := Option.bind_eq_some_iff.mp H
     obtain ⟨t342, A110, H⟩ := H
     replace H : (if t338.length < 8796093022208 then (some (t338 ++ [t342])) else (none)) = some r := H
     have A11 := Aside0.mk A110
     clear A110
     by_cases c12 : t338.length < 8796093022208
     ·
      rw [if_pos c12] at H
      have LMc12 := Aside0.mk c12
      clear c12
      obtain ⟨y343, hy343⟩ : ∃ y_ : List ByteArray, y_ = (t338 ++ [t342]) := ⟨_, rfl⟩
      replace H : (some y343) = some r := by first | (rw [hy343]; with_reducible exact H) | (have H2_ := (Option.bind_some _ _).symm.trans H; rw [hy343]; with_reducible exact H2_) | (have H2_ := (Option.bind_some _ _).symm.trans H; with_reducible exact H2_) | with_reducible exact H | (rw [hy343]; exact H) | exact H
      have Ny343 := Aside0.mk hy343
      clear hy343
      obtain rfl := Option.some.inj H
      go_enter Try.func98, Try.ntmps98
      go_wp2_with (first | ((with_reducible refine gate_callee (f := 99) rfl ?_); refine goesL_ (some 12) rfl rfl Try.func99 (by kernel_rfl) rfl #[.int .i64 (l0.length : Int)] rfl (by (try simp only [List.map_toArray, List.map_cons, List.map_nil]); first | done | rfl | (simp only [List.length_drop, List.length_take]; rfl)) ?_; (with_reducible refine (mosaicref03_half.calls k (l0.length : Int) t336 _ A4.out).mono ?_); rintro e w' ⟨rfl, ⟨nd, rfl⟩⟩; refine ⟨_, rfl, ?_⟩; obtain ⟨i013, hi013, _, hsz13, _⟩ := info_parts info9; obtain ⟨hcut13, hA13, hC13⟩ := print_take_of (P := Try.prog) Value.string (⟨#[]⟩ : ByteArray) 39 9 .i64 Try.underlying39 hi013 hsz13 A0 c0 l0 t336 (of_decide_eq_true (by first | (with_reducible assumption) | assumption)) (of_decide_eq_true (by first | (with_reducible assumption) | assumption)) HC0.out; have HR337 := Aside0.mk (Kd.C_of_reads (h1 := fun _ => rfl) (hA13 _ (Kd.reads_of_C HR0.out))); have HC337 := Aside0.mk hC13; clear hA13 hC13 hi013 hsz13) | ((with_reducible refine gate_callee (f := 98) rfl ?_); refine goesL_ (some 20) rfl rfl Try.func98 (by kernel_rfl) rfl #[.slice A0 (l0.take (t336 : Int).toNat).length c0, .int .i64 a1] rfl (by (try simp only [List.map_toArray, List.map_cons, List.map_nil]); first | done | (rw [show (l0.take (t336 : Int).toNat).length = t336.toNat from (by rw [List.length_take]; have h_ : (t336 : Int) ≤ (l0.length : Int) := of_decide_eq_true (by first | (with_reducible assumption) | assumption); omega)] <;> rfl) | rfl | (simp only [List.length_drop, List.length_take]; rfl)) ?_; (with_reducible refine (ih k (by omega) _ _ (l0.take (t336 : Int).toNat) a1 t338 _ ?side1 ?side2 A8.out).mono ?_); (case side1 => repeat (first | exact HR337.out | (with_reducible refine Kd.C_alloc ?_ _) | (with_reducible refine Kd.C_drewN ?_ _) | (with_reducible refine Kd.C_drew ?_))); (case side2 => exact HC337.out); rintro e w14 ⟨v339, rfl, ho0, hb⟩; refine ⟨_, rfl, ?_⟩; have n0_ := Aside0.mk (Kd.R_lower ho0 (below_size (by repeat (first | (with_reducible first | exact HB.out | apply below_alloc | apply pw_below_drewN | apply below_drew1) | exact HB.out)))); have n1_ := Aside0.mk (below_step (by repeat (first | (with_reducible first | exact HB.out | apply below_alloc | apply pw_below_drewN | apply below_drew1) | exact HB.out)) hb); clear HB; have HO340 := n0_; have HB := n1_; clear n0_ n1_; (try clear hb); (try clear hb2); (try clear hk); (try clear hi); (try clear ho0); obtain ⟨i015, hi015, _, hsz15, _⟩ := info_parts info9; obtain ⟨A15, hcut15, hA15, hC15⟩ := print_drop_of (P := Try.prog) Value.string (⟨#[]⟩ : ByteArray) 39 9 .i64 Try.underlying39 hi015 hsz15 A0 c0 l0 t336 (of_decide_eq_true (by first | (with_reducible assumption) | assumption)) (of_decide_eq_true (by first | (with_reducible assumption) | assumption)) HC0.out; have HR341 := Aside0.mk (Kd.C_of_reads (h1 := fun _ => rfl) (hA15 _ (Kd.reads_of_C HR0.out))); have HC341 := Aside0.mk hC15; clear hA15 hC15 hi015 hsz15) | ((with_reducible refine gate_callee (f := 95) rfl ?_); refine goesL_ (some 25) rfl rfl Try.func95 (by kernel_rfl) rfl #[.slice A15 (l0.drop (t336 : Int).toNat).length (c0 - t336.toNat)] rfl (by (try simp only [List.map_toArray, List.map_cons, List.map_nil]); first | done | (rw [show (l0.drop (t336 : Int).toNat).length = (l0.length - t336.toNat) from List.length_drop] <;> rfl) | rfl | (simp only [List.length_drop, List.length_take]; rfl)) ?_; (with_reducible refine (mosaicref03_Top.calls k _ _ (l0.drop (t336 : Int).toNat) t342 _ ?side1 ?side2 A11.out).mono ?_); (case side1 => repeat (first | exact (Kd.C_below HR341.out HB.out) | (with_reducible refine Kd.C_alloc ?_ _) | (with_reducible refine Kd.C_drewN ?_ _) | (with_reducible refine Kd.C_drew ?_))); (case side2 => exact HC341.out); rintro e w16 ⟨rfl, hb⟩; refine ⟨_, rfl, ?_⟩; have n0_ := Aside0.mk (Kd.R_below (by (with_reducible repeat (first | apply Kd.R_alloc | apply Kd.R_drewN | apply Kd.R_drew)); exact HO340.out) hb); have n1_ := Aside0.mk (below_step (by repeat (first | (with_reducible first | exact HB.out | apply below_alloc | apply pw_below_drewN | apply below_drew1) | exact HB.out)) hb); clear HO340; clear HB; have HO340 := n0_; have HB := n1_; clear n0_ n1_; (try clear hb); (try clear hb2); (try clear hk); (try clear hi)) | ((with_reducible refine gate_builtin (b := .append) (xs := #[.tmp 21, .tmp 26]) rfl ?_); at_builtin; refine Kd.R_append Kd.string (w0 := w) w.heap.size rfl (.tmp 21) (.tmp 26) 39 9 (.string ⟨#[]⟩) 16 rfl Try.underlying39 info9 rfl (by decide) (by omega) v339 t338 t342 [.string t342] (fun _ => True) (fun _ => False) rfl rfl ?aP (fun _ hk => hk.elim) ?aF ?aO ?aB ?aS ?aL ?_; (case aP => exact rfl); (case aB => exact (by repeat (first | (with_reducible first | exact HB.out | apply below_alloc | apply pw_below_drewN | apply below_drew1) | exact HB.out))); (case aF => exact (fun _ _ => trivial)); (case aO => exact (by (with_reducible repeat (first | apply Kd.R_alloc | apply Kd.R_drewN | apply Kd.R_drew)); exact HO340.out)); (case aS => exact (below_size (by repeat (first | (with_reducible first | exact HB.out | apply below_alloc | apply pw_below_drewN | apply below_drew1) | exact HB.out)))); (case aL => have := LMc12.out; omega); intro v344 w17 ho hb hg hat; rw [← Ny343.out] at ho; have n0_ := Aside0.mk (hb); have n1_ := Aside0.mk (ho); clear HB; clear HO340; have HB := n0_; have HO345 := n1_; clear n0_ n1_; clear ho hb hg hat))
      go_ret
      exact ⟨_, by first | rfl | (simp [errW_none, errW_some] <;> rfl) | (simp [*, errW_none, errW_some] <;> rfl), by (with_reducible repeat (first | apply Kd.R_alloc | apply Kd.R_drewN | apply Kd.R_drew)); exact HO345.out, by repeat (first | (with_reducible first | exact HB.out | apply below_alloc | apply pw_below_drewN | apply below_drew1) | exact HB.out)⟩
     ·
      rw [if_neg c12] at H
      exact absurd H (by simp)
    ·
     rw [if_neg c7] at H
     exact absurd H (by simp)
   ·
    rw [if_neg c6] at H
    exact absurd H (by simp)
  ·
   rw [if_neg c5] at H
   have c5b0 : decide (a1 < t336) = false := decide_eq_false c5
   clear c5
   by_cases c18 : 0 ≤ t336
   ·
    rw [if_pos c18] at H
    have c18b0 := eq_true c18
    have c18b1 : decide (0 ≤ t336) = true := decide_eq_true c18
    clear c18
    by_cases c19 : t336 ≤ (l0.length : Int)
    ·
     rw [if_pos c19] at H
     have c19b0 := eq_true c19
     have c19b1 : decide (t336 ≤ (l0.length : Int)) = true := decide_eq_true c19
     clear c19
     replace H := Option.bind_eq_some_iff.mp H
     obtain ⟨t347, A200, H⟩ := H
     replace H : ((mosaicref03_Top.f k (l0.take (t336 : Int).toNat)).bind fun t351 => (if t347.length < 8796093022208 then (some (t347 ++ [t351])) else (none))) = some r := H
     have A20 := Aside0.mk A200
     clear A200
     have c21b0 := eq_true (of_decide_eq_true (by first | (with_reducible assumption) | assumption) : 0 ≤ t336)
     have c22b0 := eq_true (of_decide_eq_true (by first | (with_reducible assumption) | assumption) : t336 ≤ (l0.length : Int))
     replace H := Option.bind_eq_some_iff.mp H
     obtain ⟨t351, A230, H⟩ := H
     replace H : (if t347.length < 8796093022208 then (some (t347 ++ [t351])) else (none)) = some r := H
     have A23 := Aside0.mk A230
     clear A230
     by_cases c24 : t347.length < 8796093022208
     ·
      rw [if_pos c24] at H
      have LMc24 := Aside0.mk c24
      clear c24
      obtain ⟨y352, hy352⟩ : ∃ y_ : List ByteArray, y_ = (t347 ++ [t351]) := ⟨_, rfl⟩
      replace H : (some y352) = some r := by first | (rw [hy352]; with_reducible exact H) | (have H2_ := (Option.bind_some _ _).symm.trans H; rw [hy352]; with_reducible exact H2_) | (have H2_ := (Option.bind_some _ _).symm.trans H; with_reducible exact H2_) | with_reducible exact H | (rw [hy352]; exact H) | exact H
      have Ny352 := Aside0.mk hy352
      clear hy352
      obtain rfl := Option.some.inj H
      go_enter Try.func98, Try.ntmps98
      go_wp2_with (first | ((with_reducible refine gate_callee (f := 99) rfl ?_); refine goesL_ (some 12) rfl rfl Try.func99 (by kernel_rfl) rfl #[.int .i64 (l0.length : Int)] rfl (by (try simp only [List.map_toArray, List.map_cons, List.map_nil]); first | done | rfl | (simp only [List.length_drop, List.length_take]; rfl)) ?_; (with_reducible refine (mosaicref03_half.calls k (l0.length : Int) t336 _ A4.out).mono ?_); rintro e w' ⟨rfl, ⟨nd, rfl⟩⟩; refine ⟨_, rfl, ?_⟩; obtain ⟨i025, hi025, _, hsz25, _⟩ := info_parts info9; obtain ⟨A25, hcut25, hA25, hC25⟩ := print_drop_of (P := Try.prog) Value.string (⟨#[]⟩ : ByteArray) 39 9 .i64 Try.underlying39 hi025 hsz25 A0 c0 l0 t336 (of_decide_eq_true (by first | (with_reducible assumption) | assumption)) (of_decide_eq_true (by first | (with_reducible assumption) | assumption)) HC0.out; have HR346 := Aside0.mk (Kd.C_of_reads (h1 := fun _ => rfl) (hA25 _ (Kd.reads_of_C HR0.out))); have HC346 := Aside0.mk hC25; clear hA25 hC25 hi025 hsz25) | ((with_reducible refine gate_callee (f := 98) rfl ?_); refine goesL_ (some 34) rfl rfl Try.func98 (by kernel_rfl) rfl #[.slice A25 (l0.drop (t336 : Int).toNat).length (c0 - t336.toNat), .int .i64 (wrap64 (a1 - t336))] rfl (by (try simp only [List.map_toArray, List.map_cons, List.map_nil]); first | done | (rw [show (l0.drop (t336 : Int).toNat).length = (l0.length - t336.toNat) from List.length_drop] <;> rfl) | rfl | (simp only [List.length_drop, List.length_take]; rfl)) ?_; (with_reducible refine (ih k (by omega) _ _ (l0.drop (t336 : Int).toNat) (wrap64 (a1 - t336)) t347 _ ?side1 ?side2 A20.out).mono ?_); (case side1 => repeat (first | exact HR346.out | (with_reducible refine Kd.C_alloc ?_ _) | (with_reducible refine Kd.C_drewN ?_ _) | (with_reducible refine Kd.C_drew ?_))); (case side2 => exact HC346.out); rintro e w26 ⟨v348, rfl, ho0, hb⟩; refine ⟨_, rfl, ?_⟩; have n0_ := Aside0.mk (Kd.R_lower ho0 (below_size (by repeat (first | (with_reducible first | exact HB.out | apply below_alloc | apply pw_below_drewN | apply below_drew1) | exact HB.out)))); have n1_ := Aside0.mk (below_step (by repeat (first | (with_reducible first | exact HB.out | apply below_alloc | apply pw_below_drewN | apply below_drew1) | exact HB.out)) hb); clear HB; have HO349 := n0_; have HB := n1_; clear n0_ n1_; (try clear hb); (try clear hb2); (try clear hk); (try clear hi); (try clear ho0); obtain ⟨i027, hi027, _, hsz27, _⟩ := info_parts info9; obtain ⟨hcut27, hA27, hC27⟩ := print_take_of (P := Try.prog) Value.string (⟨#[]⟩ : ByteArray) 39 9 .i64 Try.underlying39 hi027 hsz27 A0 c0 l0 t336 (of_decide_eq_true (by first | (with_reducible assumption) | assumption)) (of_decide_eq_true (by first | (with_reducible assumption) | assumption)) HC0.out; have HR350 := Aside0.mk (Kd.C_of_reads (h1 := fun _ => rfl) (hA27 _ (Kd.reads_of_C HR0.out))); have HC350 := Aside0.mk hC27; clear hA27 hC27 hi027 hsz27) | ((with_reducible refine gate_callee (f := 95) rfl ?_); refine goesL_ (some 39) rfl rfl Try.func95 (by kernel_rfl) rfl #[.slice A0 (l0.take (t336 : Int).toNat).length c0] rfl (by (try simp only [List.map_toArray, List.map_cons, List.map_nil]); first | done | (rw [show (l0.take (t336 : Int).toNat).length = t336.toNat from (by rw [List.length_take]; have h_ : (t336 : Int) ≤ (l0.length : Int) := of_decide_eq_true (by first | (with_reducible assumption) | assumption); omega)] <;> rfl) | rfl | (simp only [List.length_drop, List.length_take]; rfl)) ?_; (with_reducible refine (mosaicref03_Top.calls k _ _ (l0.take (t336 : Int).toNat) t351 _ ?side1 ?side2 A23.out).mono ?_); (case side1 => repeat (first | exact (Kd.C_below HR350.out HB.out) | (with_reducible refine Kd.C_alloc ?_ _) | (with_reducible refine Kd.C_drewN ?_ _) | (with_reducible refine Kd.C_drew ?_))); (case side2 => exact HC350.out); rintro e w28 ⟨rfl, hb⟩; refine ⟨_, rfl, ?_⟩; have n0_ := Aside0.mk (Kd.R_below (by (with_reducible repeat (first | apply Kd.R_alloc | apply Kd.R_drewN | apply Kd.R_drew)); exact HO349.out) hb); have n1_ := Aside0.mk (below_step (by repeat (first | (with_reducible first | exact HB.out | apply below_alloc | apply pw_below_drewN | apply below_drew1) | exact HB.out)) hb); clear HO349; clear HB; have HO349 := n0_; have HB := n1_; clear n0_ n1_; (try clear hb); (try clear hb2); (try clear hk); (try clear hi)) | ((with_reducible refine gate_builtin (b := .append) (xs := #[.tmp 35, .tmp 40]) rfl ?_); at_builtin; refine Kd.R_append Kd.string (w0 := w) w.heap.size rfl (.tmp 35) (.tmp 40) 39 9 (.string ⟨#[]⟩) 16 rfl Try.underlying39 info9 rfl (by decide) (by omega) v348 t347 t351 [.string t351] (fun _ => True) (fun _ => False) rfl rfl ?aP (fun _ hk => hk.elim) ?aF ?aO ?aB ?aS ?aL ?_; (case aP => exact rfl); (case aB => exact (by repeat (first | (with_reducible first | exact HB.out | apply below_alloc | apply pw_below_drewN | apply below_drew1) | exact HB.out))); (case aF => exact (fun _ _ => trivial)); (case aO => exact (by (with_reducible repeat (first | apply Kd.R_alloc | apply Kd.R_drewN | apply Kd.R_drew)); exact HO349.out)); (case aS => exact (below_size (by repeat (first | (with_reducible first | exact HB.out | apply below_alloc | apply pw_below_drewN | apply below_drew1) | exact HB.out)))); (case aL => have := LMc24.out; omega); intro v353 w29 ho hb hg hat; rw [← Ny352.out] at ho; have n0_ := Aside0.mk (hb); have n1_ := Aside0.mk (ho); clear HB; clear HO349; have HB := n0_; have HO354 := n1_; clear n0_ n1_; clear ho hb hg hat))
      go_ret
      exact ⟨_, by first | rfl | (simp [errW_none, errW_some] <;> rfl) | (simp [*, errW_none, errW_some] <;> rfl), by (with_reducible repeat (first | apply Kd.R_alloc | apply Kd.R_drewN | apply Kd.R_drew)); exact HO354.out, by repeat (first | (with_reducible first | exact HB.out | apply below_alloc | apply pw_below_drewN | apply below_drew1) | exact HB.out)⟩
     ·
      rw [if_neg c24] at H
      exact absurd H (by simp)
    ·
     rw [if_neg c19] at H
     exact absurd H (by simp)
   ·
    rw [if_neg c18] at H
    exact absurd H (by simp)

end Go.Proofs.Ytelcaepenfjloaa.Print
/-! #### Pr53 -/
-- By the kit's print, called by a program of this session with functions that are proved by hand.
namespace Go.Proofs.Ytelcaepenfjloaa.Print
open Go.RowKit Go.Proofs.YtelcaepenfjloaaW.PrintWords Go.Proofs.YtelcaepenfjloaaW.PrintLast Go.Proofs.YtelcaepenfjloaaW.PrintMore
attribute [local go_sem] max2_int min2_int max_two min_two max_three min_three max_four min_four
set_option linter.unusedVariables false
set_option linter.unusedSimpArgs false

/-! ### mosaicref03_Path: function 53 -/
def mosaicref03_Path.f (k : Nat) (l0 : List ByteArray) (a1 : Int) : Option (List ByteArray × Int) := (mosaicref03_May.f k l0).bind fun t355 => (if t355 = 0 then (if a1 < 0 then (some (([] : List ByteArray), 1)) else (if a1 ≥ (l0.length : Int) then (some (([] : List ByteArray), 1)) else ((mosaicref03_way.f k l0 a1).bind fun t356 => (some (t356, 0))))) else (some (([] : List ByteArray), t355)))
theorem mosaicref03_Path.mono : ∀ a0 a1 k, LeO (mosaicref03_Path.f k a0 a1) (mosaicref03_Path.f (k + 1) a0 a1) := by
 intro a0 a1 k
 unfold mosaicref03_Path.f
 repeat' first
   | (with_reducible exact mosaicref03_May.mono _ _)
   | (with_reducible exact mosaicref03_way.mono _ _ _)
   | (with_reducible exact LeO.refl _)
   | (with_reducible exact LeO.none _)
   | (with_reducible refine LeO.ite ?_ ?_)
   | (with_reducible refine LeO.bind ?_ (fun _ => ?_))
   | exact mosaicref03_May.mono _ _
   | exact mosaicref03_way.mono _ _ _
   | exact LeO.none _
   | refine LeO.ite ?_ ?_
   | refine LeO.bind ?_ (fun _ => ?_)
set_option maxHeartbeats 8000000 in
set_option maxRecDepth 100000 in
theorem mosaicref03_Path.calls (k : Nat) (A0 : Option Addr) (c0 : Nat) (l0 : List ByteArray) (a1 : Int) (r1 : List ByteArray) (r2 : Int) (w : World) (hr0 : Kd.C Kd.string w A0 l0.length l0) (hc0 : l0.length ≤ c0) (h : mosaicref03_Path.f k l0 a1 = some (r1, r2)) :
  Calls Try.prog 53 #[.slice A0 l0.length c0, .int .i64 a1] w fun e w' => ∃ v0_ : Value, e = .returned (.tuple #[v0_, .int .i64 r2]) ∧ Kd.R Kd.string 9 w' w.heap.size (fun _ => True) v0_ r1 ∧ Below w.heap.size w w' := by
 have HR0 := Aside0.mk hr0
 have HC0 := Aside0.mk hc0
 clear hr0 hc0
 have HB := Aside0.mk (Below.refl w.heap.size w)
 have H : ((mosaicref03_May.f k l0).bind fun t355 => (if t355 = 0 then (if a1 < 0 then (some (([] : List ByteArray), 1)) else (if a1 ≥ (l0.length : Int) then (some (([] : List ByteArray), 1)) else ((mosaicref03_way.f k l0 a1).bind fun t356 => (some (t356, 0))))) else (some (([] : List ByteArray), t355)))) = some (r1, r2) := h
 clear h
 replace H := Option.bind_eq_some_iff.mp H
 obtain ⟨t355, A30, H⟩ := H
 replace H : (if t355 = 0 then (if a1 < 0 then (some (([] : List ByteArray), 1)) else (if a1 ≥ (l0.length : Int) then (some (([] : List ByteArray), 1)) else ((mosaicref03_way.f k l0 a1).bind fun t356 => (some (t356, 0))))) else (some (([] : List ByteArray), t355))) = some (r1, r2) := H
 have A3 := Aside0.mk A30
 clear A30
 by_cases c4 : t355 = 0
 ·
  rw [if_pos c4] at H
  have c4b0 : (t355 == 0) = true := beq_iff_eq.mpr c4
  have c4b1 : (t355 != 0) = false := bne_eq_false_iff_eq.mpr c4
  clear c4
  by_cases c5 : a1 < 0
  ·
   rw [if_pos c5] at H
   have c5b0 : decide (a1 < 0) = true := decide_eq_true c5
   clear c5
   simp only [Option.some.injEq, Prod.mk.injEq] at H
   obtain ⟨rfl, rfl⟩ := H
   go_enter Try.func53, Try.ntmps53
   go_wp2_with (first | ((with_reducible refine gate_callee (f := 94) rfl ?_); refine goesL_ (some 8) rfl rfl Try.func94 (by kernel_rfl) rfl #[.slice A0 l0.length c0] rfl (by (try simp only [List.map_toArray, List.map_cons, List.map_nil]); first | done | rfl | (simp only [List.length_drop, List.length_take]; rfl)) ?_; (with_reducible refine (mosaicref03_May.calls k _ _ l0 t355 _ ?side1 ?side2 A3.out).mono ?_); (case side1 => repeat (first | exact HR0.out | (with_reducible refine Kd.C_alloc ?_ _) | (with_reducible refine Kd.C_drewN ?_ _) | (with_reducible refine Kd.C_drew ?_))); (case side2 => exact HC0.out); rintro e w' ⟨rfl, ⟨nd, rfl⟩⟩; refine ⟨_, rfl, ?_⟩))
   go_ret2
   exact ⟨_, by first | rfl | (simp [errW_none, errW_some] <;> rfl) | (simp [*, errW_none, errW_some] <;> rfl), by first | exact Kd.R_nil _ _ _ _ _ | exact Kd.N_nil _ _ _ _ _ | exact Kd.V_nil _ _ _ _ _ | exact Kd.Q_nil _ _ _ _ _ | exact Kd.S_nil _ _ _ _ _, by repeat (first | (with_reducible first | exact HB.out | apply below_alloc | apply pw_below_drewN | apply below_drew1) | exact HB.out)⟩
  ·
   rw [if_neg c5] at H
   have c5b0 : decide (a1 < 0) = false := decide_eq_false c5
   clear c5
   by_cases c6 : a1 ≥ (l0.length : Int)
   ·
    rw [if_pos c6] at H
    have c6b0 : decide ((l0.length : Int) ≤ a1) = true := decide_eq_true c6
    clear c6
    simp only [Option.some.injEq, Prod.mk.injEq] at H
    obtain ⟨rfl, rfl⟩ := H
    go_enter Try.func53, Try.ntmps53
    go_wp2_with (first | ((with_reducible refine gate_callee (f := 94) rfl ?_); refine goesL_ (some 8) rfl rfl Try.func94 (by kernel_rfl) rfl #[.slice A0 l0.length c0] rfl (by (try simp only [List.map_toArray, List.map_cons, List.map_nil]); first | done | rfl | (simp only [List.length_drop, List.length_take]; rfl)) ?_; (with_reducible refine (mosaicref03_May.calls k _ _ l0 t355 _ ?side1 ?side2 A3.out).mono ?_); (case side1 => repeat (first | exact HR0.out | (with_reducible refine Kd.C_alloc ?_ _) | (with_reducible refine Kd.C_drewN ?_ _) | (with_reducible refine Kd.C_drew ?_))); (case side2 => exact HC0.out); rintro e w' ⟨rfl, ⟨nd, rfl⟩⟩; refine ⟨_, rfl, ?_⟩))
    go_ret2
    exact ⟨_, by first | rfl | (simp [errW_none, errW_some] <;> rfl) | (simp [*, errW_none, errW_some] <;> rfl), by first | exact Kd.R_nil _ _ _ _ _ | exact Kd.N_nil _ _ _ _ _ | exact Kd.V_nil _ _ _ _ _ | exact Kd.Q_nil _ _ _ _ _ | exact Kd.S_nil _ _ _ _ _, by repeat (first | (with_reducible first | exact HB.out | apply below_alloc | apply pw_below_drewN | apply below_drew1) | exact HB.out)⟩
   ·
    rw [if_neg c6] at H
    have c6b0 : decide ((l0.length : Int) ≤ a1) = false := decide_eq_false c6
    clear c6
    replace H := Option.bind_eq_some_iff.mp H
    obtain ⟨t356, A70, H⟩ := H
    replace H : (some (t356, 0)) = some (r1, r2) := H
    have A7 := Aside0.mk A70
    clear A70
    simp only [Option.some.injEq, Prod.mk.injEq] at H
    obtain ⟨rfl, rfl⟩ := H
    go_enter Try.func53, Try.ntmps53
    go_wp2_with (first | ((with_reducible refine gate_callee (f := 94) rfl ?_); refine goesL_ (some 8) rfl rfl Try.func94 (by kernel_rfl) rfl #[.slice A0 l0.length c0] rfl (by (try simp only [List.map_toArray, List.map_cons, List.map_nil]); first | done | rfl | (simp only [List.length_drop, List.length_take]; rfl)) ?_; (with_reducible refine (mosaicref03_May.calls k _ _ l0 t355 _ ?side1 ?side2 A3.out).mono ?_); (case side1 => repeat (first | exact HR0.out | (with_reducible refine Kd.C_alloc ?_ _) | (with_reducible refine Kd.C_drewN ?_ _) | (with_reducible refine Kd.C_drew ?_))); (case side2 => exact HC0.out); rintro e w' ⟨rfl, ⟨nd, rfl⟩⟩; refine ⟨_, rfl, ?_⟩) | ((with_reducible refine gate_callee (f := 98) rfl ?_); refine goesL_ (some 22) rfl rfl Try.func98 (by kernel_rfl) rfl #[.slice A0 l0.length c0, .int .i64 a1] rfl (by (try simp only [List.map_toArray, List.map_cons, List.map_nil]); first | done | rfl | (simp only [List.length_drop, List.length_take]; rfl)) ?_; (with_reducible refine (mosaicref03_way.calls k _ _ l0 a1 t356 _ ?side1 ?side2 A7.out).mono ?_); (case side1 => repeat (first | exact HR0.out | (with_reducible refine Kd.C_alloc ?_ _) | (with_reducible refine Kd.C_drewN ?_ _) | (with_reducible refine Kd.C_drew ?_))); (case side2 => exact HC0.out); rintro e w8 ⟨v357, rfl, ho0, hb⟩; refine ⟨_, rfl, ?_⟩; have n0_ := Aside0.mk (Kd.R_lower ho0 (below_size (by repeat (first | (with_reducible first | exact HB.out | apply below_alloc | apply pw_below_drewN | apply below_drew1) | exact HB.out)))); have n1_ := Aside0.mk (below_step (by repeat (first | (with_reducible first | exact HB.out | apply below_alloc | apply pw_below_drewN | apply below_drew1) | exact HB.out)) hb); clear HB; have HO358 := n0_; have HB := n1_; clear n0_ n1_; (try clear hb); (try clear hb2); (try clear hk); (try clear hi); (try clear ho0)))
    go_ret2
    exact ⟨_, by first | rfl | (simp [errW_none, errW_some] <;> rfl) | (simp [*, errW_none, errW_some] <;> rfl), by (with_reducible repeat (first | apply Kd.R_alloc | apply Kd.R_drewN | apply Kd.R_drew)); exact HO358.out, by repeat (first | (with_reducible first | exact HB.out | apply below_alloc | apply pw_below_drewN | apply below_drew1) | exact HB.out)⟩
 ·
  rw [if_neg c4] at H
  have c4b0 : (t355 == 0) = false := beq_eq_false_iff_ne.mpr c4
  have c4b1 : (t355 != 0) = true := bne_iff_ne.mpr c4
  simp only [Option.some.injEq, Prod.mk.injEq] at H
  obtain ⟨rfl, rfl⟩ := H
  go_enter Try.func53, Try.ntmps53
  go_wp2_with (first | ((with_reducible refine gate_callee (f := 94) rfl ?_); refine goesL_ (some 8) rfl rfl Try.func94 (by kernel_rfl) rfl #[.slice A0 l0.length c0] rfl (by (try simp only [List.map_toArray, List.map_cons, List.map_nil]); first | done | rfl | (simp only [List.length_drop, List.length_take]; rfl)) ?_; (with_reducible refine (mosaicref03_May.calls k _ _ l0 t355 _ ?side1 ?side2 A3.out).mono ?_); (case side1 => repeat (first | exact HR0.out | (with_reducible refine Kd.C_alloc ?_ _) | (with_reducible refine Kd.C_drewN ?_ _) | (with_reducible refine Kd.C_drew ?_))); (case side2 => exact HC0.out); rintro e w' ⟨rfl, ⟨nd, rfl⟩⟩; refine ⟨_, rfl, ?_⟩))
  go_ret2
  exact ⟨_, by first | rfl | (simp [errW_none, errW_some] <;> rfl) | (simp [*, errW_none, errW_some] <;> rfl), by first | exact Kd.R_nil _ _ _ _ _ | exact Kd.N_nil _ _ _ _ _ | exact Kd.V_nil _ _ _ _ _ | exact Kd.Q_nil _ _ _ _ _ | exact Kd.S_nil _ _ _ _ _, by repeat (first | (with_reducible first | exact HB.out | apply below_alloc | apply pw_below_drewN | apply below_drew1) | exact HB.out)⟩

end Go.Proofs.Ytelcaepenfjloaa.Print
/-! #### Pr54 -/
-- By the kit's print, called by a program of this session with functions that are proved by hand.
namespace Go.Proofs.Ytelcaepenfjloaa.Print
open Go.RowKit Go.Proofs.YtelcaepenfjloaaW.PrintWords Go.Proofs.YtelcaepenfjloaaW.PrintLast Go.Proofs.YtelcaepenfjloaaW.PrintMore
attribute [local go_sem] max2_int min2_int max_two min_two max_three min_three max_four min_four
set_option linter.unusedVariables false
set_option linter.unusedSimpArgs false

/-! ### mosaicref03_Same: function 54 -/
def mosaicref03_Same.l0 : Nat → List ByteArray → List ByteArray → Int → Option (Bool)
 | 0, _, _, _ => none
 | k + 1, x0, x1, x5 => if x5 < (x0.length : Int) then (if 0 ≤ x5 then (if x5 < (x1.length : Int) then (if (rdOf ByteArray.empty x0 x5).toList = (rdOf ByteArray.empty x1 x5).toList then (mosaicref03_Same.l0 k x0 x1 (wrap64 (x5 + 1))) else (some false)) else (none)) else (none)) else (some true)
def mosaicref03_Same.f (k : Nat) (l0 : List ByteArray) (l1 : List ByteArray) : Option (Bool) := if (l0.length : Int) = (l1.length : Int) then (mosaicref03_Same.l0 k l0 l1 0) else (some false)
theorem mosaicref03_Same.mono_l : ∀ k, (∀ y0 y1 y2, LeO (mosaicref03_Same.l0 k y0 y1 y2) (mosaicref03_Same.l0 (k + 1) y0 y1 y2))
 | 0 => fun _ _ _ r h => by simp [mosaicref03_Same.l0] at h
 | k + 1 => by
  have ih0 := mosaicref03_Same.mono_l k
  ·
   intro y0 y1 y2
   unfold mosaicref03_Same.l0
   repeat' first
   | (with_reducible exact ih0 _ _ _)
   | (with_reducible exact LeO.refl _)
   | (with_reducible exact LeO.none _)
   | (with_reducible refine LeO.ite ?_ ?_)
   | (with_reducible refine LeO.bind ?_ (fun _ => ?_))
   | exact ih0 _ _ _
   | exact LeO.none _
   | refine LeO.ite ?_ ?_
   | refine LeO.bind ?_ (fun _ => ?_)
theorem mosaicref03_Same.mono : ∀ a0 a1 k, LeO (mosaicref03_Same.f k a0 a1) (mosaicref03_Same.f (k + 1) a0 a1) := by
 intro a0 a1 k
 have ih0 := mosaicref03_Same.mono_l k
 unfold mosaicref03_Same.f
 repeat' first
   | (with_reducible exact ih0 _ _ _)
   | (with_reducible exact LeO.refl _)
   | (with_reducible exact LeO.none _)
   | (with_reducible refine LeO.ite ?_ ?_)
   | (with_reducible refine LeO.bind ?_ (fun _ => ?_))
   | exact ih0 _ _ _
   | exact LeO.none _
   | refine LeO.ite ?_ ?_
   | refine LeO.bind ?_ (fun _ => ?_)
set_option maxHeartbeats 8000000 in
set_option maxRecDepth 100000 in
theorem mosaicref03_Same.calls (k : Nat) (A0 : Option Addr) (c0 : Nat) (l0 : List ByteArray) (A1 : Option Addr) (c1 : Nat) (l1 : List ByteArray) (r : Bool) (w : World) (hr0 : Kd.C Kd.string w A0 l0.length l0) (hc0 : l0.length ≤ c0) (hr1 : Kd.C Kd.string w A1 l1.length l1) (hc1 : l1.length ≤ c1) (h : mosaicref03_Same.f k l0 l1 = some r) :
  Calls Try.prog 54 #[.slice A0 l0.length c0, .slice A1 l1.length c1] w fun e w' => e = .returned (.bool r) ∧ Drawn0 w w' := by
 have HR0 := Aside0.mk hr0
 have HC0 := Aside0.mk hc0
 clear hr0 hc0
 have HR1 := Aside0.mk hr1
 have HC1 := Aside0.mk hc1
 clear hr1 hc1
 have H : (if (l0.length : Int) = (l1.length : Int) then (mosaicref03_Same.l0 k l0 l1 0) else (some false)) = some r := h
 clear h
 by_cases c3 : (l0.length : Int) = (l1.length : Int)
 ·
  rw [if_pos c3] at H
  have c3b0 : ((l0.length : Int) == (l1.length : Int)) = true := beq_iff_eq.mpr c3
  have c3b1 : ((l0.length : Int) != (l1.length : Int)) = false := bne_eq_false_iff_eq.mpr c3
  have c3b2 : (l0.length == l1.length) = true := by first | simpa using c3 | (simp at c3 ⊢; omega)
  clear c3
  have H' := Aside0.mk H
  clear H
  go_enter Try.func54, Try.ntmps54
  go_wp2
  repeat (go_quiet (fail); try go_wp2)
  go_loopg [5] k (fun kq v5 w' => ∃ (x5_1 : Int), v5 = .int .i64 x5_1 ∧ Aside0 (mosaicref03_Same.l0 kq l0 l1 x5_1 = some r) ∧ Aside0 (kq ≤ k) ∧ Drawn0 w w')
  case atStart => exact ⟨(0), (by first | rfl | (simp; done) | (simp [*]; done)), H', ⟨Nat.le_refl _⟩, by repeat (first | exact Drawn0.refl _ | apply Drawn0.step)⟩
  case round =>
   clear H'
   try clear c1
   try clear p2
   try clear c3
   try clear c3b0
   try clear c3b1
   try clear c3b2
   obtain ⟨x5_1, rfl, HA, HK1, ⟨m1, rfl⟩⟩ := hrel
   cases gk with
   | zero => exact absurd HA.out (by simp [mosaicref03_Same.l0])
   | succ k1 =>
    have H := HA.out
    clear HA
    simp only [mosaicref03_Same.l0] at H
    by_cases c4 : x5_1 < (l0.length : Int)
    ·
     rw [if_pos c4] at H
     have c4b0 : decide (x5_1 < (l0.length : Int)) = true := decide_eq_true c4
     clear c4
     by_cases c5 : 0 ≤ x5_1
     ·
      rw [if_pos c5] at H
      have c5b0 : decide (0 ≤ x5_1) = true := decide_eq_true c5
      clear c5
      by_cases c6 : x5_1 < (l1.length : Int)
      ·
       rw [if_pos c6] at H
       have c6b0 : decide (x5_1 < (l1.length : Int)) = true := decide_eq_true c6
       clear c6
       by_cases c7 : (rdOf ByteArray.empty l0 x5_1).toList = (rdOf ByteArray.empty l1 x5_1).toList
       ·
        rw [if_pos c7] at H
        have c7b0 : ((rdOf ByteArray.empty l0 x5_1).toList == (rdOf ByteArray.empty l1 x5_1).toList) = true := beq_iff_eq.mpr c7
        have c7b1 : ((rdOf ByteArray.empty l0 x5_1).toList != (rdOf ByteArray.empty l1 x5_1).toList) = false := bne_eq_false_iff_eq.mpr c7
        clear c7
        have H' := Aside0.mk H
        clear H
        have p359 : 0 ≤ (x5_1 : Int) := of_decide_eq_true (by first | (with_reducible assumption) | assumption)
        have q359 : x5_1 < (l0.length : Int) := of_decide_eq_true (by first | (with_reducible assumption) | assumption)
        obtain ⟨ad359, e359, hx359_0⟩ := Kd.at_string HR0.out x5_1 p359 q359
        cases e359
        replace p359 := eq_true p359
        replace q359 := eq_true q359
        have p360 : 0 ≤ (x5_1 : Int) := of_decide_eq_true (by first | (with_reducible assumption) | assumption)
        have q360 : x5_1 < (l1.length : Int) := of_decide_eq_true (by first | (with_reducible assumption) | assumption)
        obtain ⟨ad360, e360, hx360_0⟩ := Kd.at_string HR1.out x5_1 p360 q360
        cases e360
        replace p360 := eq_true p360
        replace q360 := eq_true q360
        go_wp2
        repeat (go_quiet (fail); try go_wp2)
        go_roundg k1
        case measure => have := HK1.out; omega
        case rel => exact ⟨(wrap64 (x5_1 + 1)), (by first | rfl | (simp; done) | (simp [*]; done)), H', ⟨by have := HK1.out; omega⟩, by repeat (first | exact Drawn0.refl _ | apply Drawn0.step)⟩
       ·
        rw [if_neg c7] at H
        have c7b0 : ((rdOf ByteArray.empty l0 x5_1).toList == (rdOf ByteArray.empty l1 x5_1).toList) = false := beq_eq_false_iff_ne.mpr c7
        have c7b1 : ((rdOf ByteArray.empty l0 x5_1).toList != (rdOf ByteArray.empty l1 x5_1).toList) = true := bne_iff_ne.mpr c7
        obtain rfl := Option.some.inj H
        have p359 : 0 ≤ (x5_1 : Int) := of_decide_eq_true (by first | (with_reducible assumption) | assumption)
        have q359 : x5_1 < (l0.length : Int) := of_decide_eq_true (by first | (with_reducible assumption) | assumption)
        obtain ⟨ad359, e359, hx359_0⟩ := Kd.at_string HR0.out x5_1 p359 q359
        cases e359
        replace p359 := eq_true p359
        replace q359 := eq_true q359
        have p360 : 0 ≤ (x5_1 : Int) := of_decide_eq_true (by first | (with_reducible assumption) | assumption)
        have q360 : x5_1 < (l1.length : Int) := of_decide_eq_true (by first | (with_reducible assumption) | assumption)
        obtain ⟨ad360, e360, hx360_0⟩ := Kd.at_string HR1.out x5_1 p360 q360
        cases e360
        replace p360 := eq_true p360
        replace q360 := eq_true q360
        go_wp2
        repeat (go_quiet (fail); try go_wp2)
        go_ret
        exact ⟨by first | rfl | (simp; done) | (simp [*]; done), by repeat (first | exact Drawn0.refl _ | apply Drawn0.step)⟩
      ·
       rw [if_neg c6] at H
       exact absurd H (by simp)
     ·
      rw [if_neg c5] at H
      exact absurd H (by simp)
    ·
     rw [if_neg c4] at H
     have c4b0 : decide (x5_1 < (l0.length : Int)) = false := decide_eq_false c4
     clear c4
     obtain rfl := Option.some.inj H
     go_wp2
     repeat (go_quiet (fail); try go_wp2)
     go_ret
     exact ⟨by first | rfl | (simp; done) | (simp [*]; done), by repeat (first | exact Drawn0.refl _ | apply Drawn0.step)⟩
 ·
  rw [if_neg c3] at H
  have c3b0 : ((l0.length : Int) == (l1.length : Int)) = false := beq_eq_false_iff_ne.mpr c3
  have c3b1 : ((l0.length : Int) != (l1.length : Int)) = true := bne_iff_ne.mpr c3
  have c3b2 : (l0.length == l1.length) = false := by first | simpa using c3 | (simp at c3 ⊢; omega)
  obtain rfl := Option.some.inj H
  go_enter Try.func54, Try.ntmps54
  go_wp2
  repeat (go_quiet (fail); try go_wp2)
  go_ret
  exact ⟨by first | rfl | (simp; done) | (simp [*]; done), by repeat (first | exact Drawn0.refl _ | apply Drawn0.step)⟩

end Go.Proofs.Ytelcaepenfjloaa.Print
/-! #### PureMer1 -/
/- Trees of sums in plain words: the levels' pairs come to the root that halves come to; paths and their lengths. -/
namespace Go.Proofs.Ytelcaepenfjloaa.Pure
open Go.RowKit Go.Proofs.Ytelcaepenfjloaa.Print Go.Proofs.YtelcaepenfjloaaW.PrintWords Go.Proofs.YtelcaepenfjloaaW.PrintLast Go.Proofs.YtelcaepenfjloaaW.PrintMore
set_option linter.unusedVariables false
set_option linter.unusedSimpArgs false

def leafT (s : ByteArray) : ByteArray := (⟨#[0]⟩ : ByteArray) ++ s
def knotT (l r : ByteArray) : ByteArray := ((⟨#[1]⟩ : ByteArray) ++ l) ++ r
def leafD (s : ByteArray) : ByteArray := shaSum (leafT s)
def knotD (l r : ByteArray) : ByteArray := shaSum (knotT l r)
theorem leafT_size (s : ByteArray) : (leafT s).size = 1 + s.size := by
  rw [leafT, ByteArray.size_append]
  rfl
theorem knotT_size (l r : ByteArray) : (knotT l r).size = 1 + l.size + r.size := by
  rw [knotT, ByteArray.size_append, ByteArray.size_append]
  rfl
theorem leafD_size (s : ByteArray) : (leafD s).size = 32 := shaSum_size _
theorem knotD_size (l r : ByteArray) : (knotD l r).size = 32 := shaSum_size _
theorem leaf_f (s : ByteArray) (h : s.size ≤ 65535) : merkle_Leaf.f s = some (leafD s) := by
  have hz := leafT_size s
  unfold merkle_Leaf.f
  rw [if_pos (by omega)]
  show (sha_Sum.f (leafT s)).bind _ = _
  rw [sha_f _ (by omega)]
  rfl
theorem knot_f (l r : ByteArray) (h : l.size + r.size ≤ 65535) : merkle_knot.f l r = some (knotT l r) := by
  have h1 : ((⟨#[1]⟩ : ByteArray) ++ l).size = 1 + l.size := by
    rw [ByteArray.size_append]
    rfl
  unfold merkle_knot.f
  rw [if_pos (by omega), if_pos (by omega)]
  rfl
theorem Knot_f (l r : ByteArray) (h : l.size + r.size ≤ 65535) : merkle_Knot.f l r = some (knotD l r) := by
  have hz := knotT_size l r
  unfold merkle_Knot.f
  rw [knot_f l r h]
  simp only [Option.bind_some]
  rw [sha_f _ (by omega)]
  rfl
theorem leafText_f (s : ByteArray) (h : s.size ≤ 65535) : mosaicref03_LeafText.f s = some (leafT s) := by
  unfold mosaicref03_LeafText.f
  rw [if_pos (by omega)]
  rfl
theorem knotText_f (l r : ByteArray) (h : l.size + r.size ≤ 65535) : mosaicref03_KnotText.f l r = some (knotT l r) := by
  have h1 : ((⟨#[1]⟩ : ByteArray) ++ l).size = 1 + l.size := by
    rw [ByteArray.size_append]
    rfl
  unfold mosaicref03_KnotText.f
  rw [if_pos (by omega), if_pos (by omega)]
  rfl

/-! ### Halves -/
def halfN (n : Nat) : Nat := 2 ^ (n - 1).log2
theorem halfN_lt (n : Nat) (h : 2 ≤ n) : halfN n < n := by
  have := Nat.log2_self_le (show n - 1 ≠ 0 by omega)
  unfold halfN
  omega
theorem halfN_pos (n : Nat) : 1 ≤ halfN n := Nat.one_le_two_pow
theorem halfN_ge (n : Nat) : n ≤ 2 * halfN n := by
  have := Nat.lt_log2_self (n := n - 1)
  rw [Nat.pow_succ] at this
  unfold halfN
  omega
theorem halfN_two (n : Nat) (h : 3 ≤ n) : halfN n = 2 * halfN ((n + 1) / 2) := by
  unfold halfN
  rw [show (n + 1) / 2 - 1 = (n - 1) / 2 by omega]
  conv => lhs; rw [Nat.log2_def, if_pos (by omega), Nat.pow_succ]
  omega
theorem half_l0 (n : Nat) (h : 2 ≤ n) (hn : n ≤ 100000) (d : Nat) : ∀ j : Nat, j + d = (n - 1).log2 → Ev (fun k => mosaicref03_half.l0 k (n : Int) ((2 ^ j : Nat) : Int)) ((halfN n : Nat) : Int) := by
  have hlt := halfN_lt n h
  have hge := halfN_ge n
  induction d with
  | zero =>
    intro j hj
    have e : halfN n = 2 ^ j := by unfold halfN; rw [← hj]; rfl
    refine Ev.succ ?_
    simp only [mosaicref03_half.l0]
    generalize 2 ^ j = x at e ⊢
    have w : wrap64 ((x : Int) * 2) = (x : Int) * 2 := by unfold wrap64; omega
    rw [w]
    exact Ev.neg (by omega) (Ev.some_ (by rw [e]))
  | succ d ih =>
    intro j hj
    have := ih (j + 1) (by omega)
    have hle : 2 ^ (j + 1) ≤ halfN n := Nat.pow_le_pow_right (by decide) (by omega)
    rw [Nat.pow_succ] at this hle
    refine Ev.succ ?_
    simp only [mosaicref03_half.l0]
    generalize 2 ^ j = x at this hle ⊢
    have w : wrap64 ((x : Int) * 2) = ((x * 2 : Nat) : Int) := by unfold wrap64; omega
    rw [w]
    exact Ev.pos (by omega) this
theorem half_ev (n : Nat) (h : 2 ≤ n) (hn : n ≤ 100000) : Ev (fun k => mosaicref03_half.f k (n : Int)) ((halfN n : Nat) : Int) := half_l0 n h hn _ 0 (Nat.zero_add _)

/-! ### Pairs -/
def pairsM : List ByteArray → List ByteArray
  | [] => []
  | [a] => [a]
  | a :: b :: l => knotD a b :: pairsM l
theorem pairsM_length : ∀ l : List ByteArray, (pairsM l).length = (l.length + 1) / 2
  | [] => by simp [pairsM]
  | [_] => by simp [pairsM]
  | _ :: _ :: l => by
    rw [pairsM, List.length_cons, pairsM_length l]
    simp
    omega
theorem pairsM_append : ∀ a b : List ByteArray, a.length % 2 = 0 → pairsM (a ++ b) = pairsM a ++ pairsM b
  | [], _, _ => rfl
  | [_], _, h => by simp at h
  | x :: y :: a, b, h => by
    show knotD x y :: pairsM (a ++ b) = _
    rw [pairsM_append a b (by simp at h; omega)]
    rfl
theorem pairsM_size : ∀ l : List ByteArray, (∀ x ∈ l, x.size = 32) → ∀ x ∈ pairsM l, x.size = 32
  | [], _, x, h => by simp [pairsM] at h
  | [a], h, x, hx => h x hx
  | a :: b :: l, h, x, hx => by
    rcases List.mem_cons.1 hx with rfl | hx
    · exact knotD_size _ _
    · exact pairsM_size l (fun y hy => h y (by simp [hy])) x hx

/-! ### The root, by halves -/
def topM (l : List ByteArray) : ByteArray :=
  if h : l.length ≤ 1 then l.headD ByteArray.empty
  else knotD (topM (l.take (halfN l.length))) (topM (l.drop (halfN l.length)))
termination_by l.length
decreasing_by
  · have := halfN_lt l.length (by omega)
    rw [List.length_take]
    omega
  · have := halfN_pos l.length
    rw [List.length_drop]
    omega
theorem topM_one (a : ByteArray) : topM [a] = a := by
  rw [topM]
  rfl
theorem topM_two (l : List ByteArray) (h : 2 ≤ l.length) : topM l = knotD (topM (l.take (halfN l.length))) (topM (l.drop (halfN l.length))) := by
  conv => lhs; rw [topM]
  rw [dif_neg (by omega)]
theorem list1 (l : List ByteArray) (h : l.length = 1) : ∃ a, l = [a] := by
  match l, h with
  | [a], _ => exact ⟨a, rfl⟩
theorem list2 (l : List ByteArray) (h : l.length = 2) : ∃ a b, l = [a, b] := by
  match l, h with
  | [a, b], _ => exact ⟨a, b, rfl⟩
theorem halfN_2 : halfN 2 = 1 := by decide
/-- A level's pairs, cut where the level is cut. -/
theorem pairs_cut (l : List ByteArray) (h : 3 ≤ l.length) : (pairsM l).take (halfN (pairsM l).length) = pairsM (l.take (halfN l.length)) ∧ (pairsM l).drop (halfN (pairsM l).length) = pairsM (l.drop (halfN l.length)) := by
  have h2 := halfN_two l.length h
  have hlt := halfN_lt l.length (by omega)
  have e : pairsM l = pairsM (l.take (halfN l.length)) ++ pairsM (l.drop (halfN l.length)) := by
    rw [← pairsM_append _ _ (by rw [List.length_take]; omega), List.take_append_drop]
  have hl : (pairsM (l.take (halfN l.length))).length = halfN (pairsM l).length := by
    rw [pairsM_length, pairsM_length, List.length_take]
    omega
  constructor
  · rw [← hl]
    conv => lhs; rw [e]
    exact List.take_left
  · rw [← hl]
    conv => lhs; rw [e]
    exact List.drop_left
theorem pairs_top (n : Nat) : ∀ l : List ByteArray, l.length = n → 1 ≤ n → topM (pairsM l) = topM l := by
  induction n using Nat.strongRecOn with
  | _ n ih =>
    intro l hl hn
    by_cases h1 : n = 1
    · obtain ⟨a, rfl⟩ := list1 l (by omega)
      rfl
    by_cases h2 : n = 2
    · obtain ⟨a, b, rfl⟩ := list2 l (by omega)
      rw [topM_two [a, b] (by simp)]
      show topM [knotD a b] = knotD (topM ([a, b].take (halfN 2))) (topM ([a, b].drop (halfN 2)))
      rw [halfN_2]
      show topM [knotD a b] = knotD (topM [a]) (topM [b])
      rw [topM_one, topM_one, topM_one]
    have hlt := halfN_lt l.length (by omega)
    have hps := halfN_pos l.length
    obtain ⟨e1, e2⟩ := pairs_cut l (by omega)
    rw [topM_two (pairsM l) (by rw [pairsM_length]; omega), e1, e2, ih (l.take (halfN l.length)).length (by rw [List.length_take]; omega) _ rfl (by rw [List.length_take]; omega),
      ih (l.drop (halfN l.length)).length (by rw [List.length_drop]; omega) _ rfl (by rw [List.length_drop]; omega), topM_two l (by omega)]

/-! ### The path of a leaf -/
def sib (i : Nat) : Nat := if i % 2 = 0 then i + 1 else i - 1
theorem sib_xor (i : Nat) (h : i < 256) : Go.bits .xor .i64 (i : Int) 1 = (sib i : Int) := by
  have : ∀ i : Fin 256, Go.bits .xor .i64 (i.val : Int) 1 = (sib i.val : Int) := by decide +kernel
  exact this ⟨i, h⟩
def wayM (l : List ByteArray) (i : Nat) : List ByteArray :=
  if h : l.length ≤ 1 then []
  else if i < halfN l.length then wayM (l.take (halfN l.length)) i ++ [topM (l.drop (halfN l.length))]
  else wayM (l.drop (halfN l.length)) (i - halfN l.length) ++ [topM (l.take (halfN l.length))]
termination_by l.length
decreasing_by
  · have := halfN_lt l.length (by omega)
    rw [List.length_take]
    omega
  · have := halfN_pos l.length
    rw [List.length_drop]
    omega
theorem wayM_one (a : ByteArray) (i : Nat) : wayM [a] i = [] := by
  rw [wayM]
  rfl
theorem wayM_left (l : List ByteArray) (i : Nat) (h : 2 ≤ l.length) (hi : i < halfN l.length) : wayM l i = wayM (l.take (halfN l.length)) i ++ [topM (l.drop (halfN l.length))] := by
  conv => lhs; rw [wayM]
  rw [dif_neg (by omega), if_pos hi]
theorem wayM_right (l : List ByteArray) (i : Nat) (h : 2 ≤ l.length) (hi : ¬ i < halfN l.length) : wayM l i = wayM (l.drop (halfN l.length)) (i - halfN l.length) ++ [topM (l.take (halfN l.length))] := by
  conv => lhs; rw [wayM]
  rw [dif_neg (by omega), if_neg hi]
def sibL (l : List ByteArray) (i : Nat) : List ByteArray := if sib i < l.length then [l.getD (sib i) ByteArray.empty] else []
theorem getD_take {α : Type} (l : List α) (k i : Nat) (d : α) (h : i < k) : (l.take k).getD i d = l.getD i d := by
  simp [List.getD_eq_getElem?_getD, List.getElem?_take, h]
theorem getD_drop {α : Type} (l : List α) (k i : Nat) (d : α) : (l.drop k).getD i d = l.getD (k + i) d := by
  simp [List.getD_eq_getElem?_getD, List.getElem?_drop]
theorem way_step (n : Nat) : ∀ (l : List ByteArray) (i : Nat), l.length = n → 2 ≤ n → i < n → wayM l i = sibL l i ++ wayM (pairsM l) (i / 2) := by
  induction n using Nat.strongRecOn with
  | _ n ih =>
    intro l i hl hn hi
    by_cases h2 : n = 2
    · obtain ⟨a, b, rfl⟩ := list2 l (by omega)
      have hh : halfN [a, b].length = 1 := halfN_2
      rcases (by omega : i = 0 ∨ i = 1) with rfl | rfl
      · rw [wayM_left _ _ (by simp) (by rw [hh]; omega), hh]
        show wayM [a] 0 ++ [topM [b]] = [b] ++ wayM [knotD a b] 0
        rw [wayM_one, wayM_one, topM_one]
        rfl
      · rw [wayM_right _ _ (by simp) (by rw [hh]; omega), hh]
        show wayM [b] 0 ++ [topM [a]] = [a] ++ wayM [knotD a b] 0
        rw [wayM_one, wayM_one, topM_one]
        rfl
    have hlt := halfN_lt l.length (by omega)
    have hps := halfN_pos l.length
    have hge := halfN_ge l.length
    have ht := halfN_two l.length (by omega)
    have hpl := pairsM_length l
    have hhp : halfN (pairsM l).length = halfN ((l.length + 1) / 2) := by rw [hpl]
    have hp1 := halfN_pos ((l.length + 1) / 2)
    obtain ⟨e1, e2⟩ := pairs_cut l (by omega)
    have hsib : sib i / 2 = i / 2 := by unfold sib; split <;> omega
    by_cases hc : i < halfN l.length
    · have hsk : sib i < halfN l.length := by unfold sib; split <;> omega
      rw [wayM_left l i (by omega) hc, wayM_left (pairsM l) (i / 2) (by omega) (by omega), e1, e2, pairs_top _ _ rfl (by rw [List.length_drop]; omega)]
      rw [ih (l.take (halfN l.length)).length (by rw [List.length_take]; omega) _ i rfl (by rw [List.length_take]; omega) (by rw [List.length_take]; omega), List.append_assoc]
      congr 1
      unfold sibL
      rw [List.length_take, if_pos (by omega), if_pos (by omega), getD_take _ _ _ _ hsk]
    · rw [wayM_right l i (by omega) hc, wayM_right (pairsM l) (i / 2) (by omega) (by omega), e1, e2, pairs_top _ _ rfl (by rw [List.length_take]; omega)]
      have hs : sib (i - halfN l.length) + halfN l.length = sib i := by
        unfold sib
        split
        · rw [if_pos (by omega)]
          omega
        · rw [if_neg (by omega)]
          omega
      by_cases h1 : (l.drop (halfN l.length)).length = 1
      · obtain ⟨a, ha⟩ := list1 _ h1
        rw [List.length_drop] at h1
        have e0 : i - halfN l.length = 0 := by omega
        have hd : i / 2 - halfN (pairsM l).length = 0 := by omega
        rw [ha, e0, hd]
        show wayM [a] 0 ++ _ = _ ++ (wayM [a] 0 ++ _)
        rw [wayM_one]
        have : sibL l i = [] := by
          unfold sibL
          rw [if_neg]
          have : sib 0 = 1 := rfl
          rw [e0, this] at hs
          omega
        rw [this]
        rfl
      · rw [List.length_drop] at h1
        rw [ih (l.drop (halfN l.length)).length (by rw [List.length_drop]; omega) _ (i - halfN l.length) rfl (by rw [List.length_drop]; omega) (by rw [List.length_drop]; omega), List.append_assoc]
        rw [show (i - halfN l.length) / 2 = i / 2 - halfN (pairsM l).length by omega]
        congr 1
        unfold sibL
        rw [List.length_drop, getD_drop, Nat.add_comm, hs]
        by_cases hz : sib i < l.length
        · rw [if_pos hz, if_pos (by omega)]
        · rw [if_neg hz, if_neg (by omega)]

/-! ### How long a path is -/
def depthM (n i : Nat) : Nat :=
  if h : n ≤ 1 then 0
  else if i < halfN n then depthM (halfN n) i + 1
  else depthM (n - halfN n) (i - halfN n) + 1
termination_by n
decreasing_by
  · exact halfN_lt n (by omega)
  · have := halfN_pos n
    omega
theorem depthM_one (n i : Nat) (h : n ≤ 1) : depthM n i = 0 := by
  rw [depthM, dif_pos h]
theorem depthM_left (n i : Nat) (h : 2 ≤ n) (hi : i < halfN n) : depthM n i = depthM (halfN n) i + 1 := by
  conv => lhs; rw [depthM]
  rw [dif_neg (by omega), if_pos hi]
theorem depthM_right (n i : Nat) (h : 2 ≤ n) (hi : ¬ i < halfN n) : depthM n i = depthM (n - halfN n) (i - halfN n) + 1 := by
  conv => lhs; rw [depthM]
  rw [dif_neg (by omega), if_neg hi]
theorem way_length (n : Nat) : ∀ (l : List ByteArray) (i : Nat), l.length = n → (wayM l i).length = depthM n i := by
  induction n using Nat.strongRecOn with
  | _ n ih =>
    intro l i hl
    by_cases h1 : n ≤ 1
    · rw [depthM_one n i h1, wayM, dif_pos (by omega)]
      rfl
    have hlt := halfN_lt l.length (by omega)
    have hps := halfN_pos l.length
    by_cases hc : i < halfN l.length
    · rw [wayM_left l i (by omega) hc, depthM_left n i (by omega) (by rw [← hl]; exact hc), List.length_append, ih (halfN n) (by rw [← hl]; omega) _ i (by rw [List.length_take, ← hl]; omega)]
      rfl
    · rw [wayM_right l i (by omega) hc, depthM_right n i (by omega) (by rw [← hl]; exact hc), List.length_append, ih (n - halfN n) (by rw [← hl]; omega) _ _ (by rw [List.length_drop, hl]), hl]
      rfl
theorem depth_step (n i : Nat) (h : 2 ≤ n) (hi : i < n) : depthM n i = (if sib i < n then 1 else 0) + depthM ((n + 1) / 2) (i / 2) := by
  have e := way_step n (List.replicate n ByteArray.empty) i (by simp) h hi
  have e2 := congrArg List.length e
  rw [List.length_append, way_length n _ i (by simp), way_length ((n + 1) / 2) _ (i / 2) (by rw [pairsM_length]; simp)] at e2
  rw [e2]
  congr 1
  unfold sibL
  rw [List.length_replicate]
  split <;> rfl
end Go.Proofs.Ytelcaepenfjloaa.Pure
/-! #### PureMer2 -/
/- What the functions on lists of texts come to: digests, levels, roots, paths, lengths of paths; the reference's. -/
namespace Go.Proofs.Ytelcaepenfjloaa.Pure
open Go.RowKit Go.Proofs.Ytelcaepenfjloaa.Print Go.Proofs.YtelcaepenfjloaaW.PrintWords Go.Proofs.YtelcaepenfjloaaW.PrintLast Go.Proofs.YtelcaepenfjloaaW.PrintMore
set_option linter.unusedVariables false
set_option linter.unusedSimpArgs false

theorem rdOf_at (l : List ByteArray) (i : Nat) : rdOf ByteArray.empty l (i : Int) = l.getD i ByteArray.empty := by simp [rdOf]
theorem getD_mem (l : List ByteArray) (i : Nat) (h : i < l.length) : l.getD i ByteArray.empty ∈ l := by
  rw [List.getD_eq_getElem?_getD, List.getElem?_eq_getElem h]
  exact List.getElem_mem h
theorem drop_getD (l : List ByteArray) (i : Nat) (h : i < l.length) : l.drop i = l.getD i ByteArray.empty :: l.drop (i + 1) := by
  rw [List.drop_eq_getElem_cons h, List.getD_eq_getElem?_getD, List.getElem?_eq_getElem h]
  rfl
theorem take_getD (l : List ByteArray) (i : Nat) (h : i < l.length) : l.take (i + 1) = l.take i ++ [l.getD i ByteArray.empty] := by
  rw [List.take_succ_eq_append_getElem h, List.getD_eq_getElem?_getD, List.getElem?_eq_getElem h]
  rfl
theorem digests_l0 (l : List ByteArray) (hl : l.length ≤ 1000) (hs : ∀ s ∈ l, s.size ≤ 65535) (d : Nat) : ∀ i : Nat, i + d = l.length → Ev (fun k => merkle_digests.l0 k ((l.take i).map leafD) l (l.length : Int) (i : Int)) (l.map leafD) := by
  induction d with
  | zero =>
    intro i hi
    refine Ev.succ ?_
    simp only [merkle_digests.l0]
    refine Ev.neg (by omega) (Ev.some_ ?_)
    rw [List.take_of_length_le (by omega)]
  | succ d ih =>
    intro i hi
    refine Ev.succ ?_
    simp only [merkle_digests.l0]
    rw [rdOf_at, leaf_f _ (hs _ (getD_mem l i (by omega))), wrap_succ _ (by omega)]
    have := ih (i + 1) (by omega)
    rw [take_getD l i (by omega), List.map_append] at this
    exact Ev.pos (by omega) (Ev.pos (by omega) (Ev.pos (by omega) (Ev.some_bind (Ev.pos (by simp; omega) this))))
theorem digests_ev (l : List ByteArray) (hl : l.length ≤ 1000) (hs : ∀ s ∈ l, s.size ≤ 65535) : Ev (fun k => merkle_digests.f k l) (l.map leafD) := digests_l0 l hl hs l.length 0 (by omega)
theorem pairs_l0 (l : List ByteArray) (hl : l.length ≤ 1000) (hs : ∀ s ∈ l, s.size = 32) (d : Nat) : ∀ (i : Nat) (acc : List ByteArray), i ≤ l.length → l.length - i = d → acc.length ≤ i → Ev (fun k => merkle_pairs.l0 k l acc (i : Int)) (acc ++ pairsM (l.drop i)) := by
  induction d using Nat.strongRecOn with
  | _ d ih =>
    intro i acc hi hd ha
    refine Ev.succ ?_
    simp only [merkle_pairs.l0]
    have e1 : wrap64 ((i : Int) + 1) = ((i + 1 : Nat) : Int) := wrap_succ i (by omega)
    have e2 : wrap64 ((i : Int) + 2) = ((i + 2 : Nat) : Int) := by unfold wrap64; omega
    rw [e1, e2]
    by_cases h0 : i = l.length
    · refine Ev.neg (by omega) (Ev.some_ ?_)
      rw [List.drop_of_length_le (by omega)]
      simp [pairsM]
    refine Ev.pos (by omega) ?_
    by_cases h1 : i + 1 = l.length
    · have hN : Ev (fun k => merkle_pairs.l0 k l (acc ++ [l.getD i ByteArray.empty]) ((i + 2 : Nat) : Int)) (acc ++ pairsM (l.drop i)) := by
        refine Ev.succ ?_
        simp only [merkle_pairs.l0]
        refine Ev.neg (by omega) (Ev.some_ ?_)
        rw [drop_getD l i (by omega), List.drop_of_length_le (by omega)]
        simp [pairsM]
      rw [rdOf_at]
      exact Ev.pos (by omega) (Ev.pos (by omega) (Ev.pos (by omega) hN))
    · rw [rdOf_at, rdOf_at, Knot_f _ _ (by rw [hs _ (getD_mem l i (by omega)), hs _ (getD_mem l (i + 1) (by omega))]; omega)]
      have := ih (d - 2) (by omega) (i + 2) (acc ++ [knotD (l.getD i ByteArray.empty) (l.getD (i + 1) ByteArray.empty)]) (by omega) (by omega) (by simp; omega)
      refine Ev.neg (by omega) (Ev.pos (by omega) (Ev.pos (by omega) (Ev.pos (by omega) (Ev.some_bind (Ev.pos (by omega) (this.to ?_))))))
      rw [drop_getD l i (by omega), drop_getD l (i + 1) (by omega), pairsM, List.append_assoc]
      rfl
theorem pairs_ev (l : List ByteArray) (hl : l.length ≤ 1000) (hs : ∀ s ∈ l, s.size = 32) : Ev (fun k => merkle_pairs.f k l) (pairsM l) := by
  have := pairs_l0 l hl hs l.length 0 [] (by omega) (by omega) (by simp)
  rw [List.drop_zero, List.nil_append] at this
  exact this
theorem leafs_size (l : List ByteArray) : ∀ x ∈ l.map leafD, x.size = 32 := by
  intro x hx
  obtain ⟨y, _, rfl⟩ := List.mem_map.1 hx
  exact leafD_size y
theorem up_ev (n : Nat) : ∀ l : List ByteArray, l.length = n → 1 ≤ n → n ≤ 1000 → (∀ s ∈ l, s.size = 32) → Ev (fun k => merkle_Root.l0 k l) (topM l, 0) := by
  induction n using Nat.strongRecOn with
  | _ n ih =>
    intro l hl h1 h2 hs
    refine Ev.succ ?_
    simp only [merkle_Root.l0]
    by_cases h : n = 1
    · obtain ⟨a, rfl⟩ := list1 l (by omega)
      refine Ev.pos rfl (Ev.pos (by simp) (Ev.some_ ?_))
      rw [topM_one]
      rfl
    · refine Ev.neg (by omega) (Ev.bind (pairs_ev l (by omega) hs) ?_)
      have hp := pairsM_length l
      rw [← pairs_top n l hl (by omega)]
      exact ih (pairsM l).length (by omega) _ rfl (by omega) (by omega) (pairsM_size l hs)
theorem mayM_zero {l : List ByteArray} (h : mayM l = 0) : 1 ≤ l.length ∧ l.length ≤ 256 ∧ ∀ s ∈ l, s.size ≤ 1024 := by
  unfold mayM at h
  split at h
  · simp at h
  · split at h
    · simp at h
    · split at h
      · simp at h
      · rename_i h1 h2 h3
        refine ⟨by omega, by omega, fun s hs => ?_⟩
        rw [Bool.not_eq_true, List.any_eq_false] at h3
        have := h3 s hs
        unfold longB at this
        simp only [decide_eq_true_eq] at this
        omega
theorem Root_ev (l : List ByteArray) : Ev (fun k => merkle_Root.f k l) (if mayM l = 0 then (topM (l.map leafD), 0) else ((⟨#[]⟩ : ByteArray), mayM l)) := by
  unfold merkle_Root.f
  refine Ev.call (show merkle_may.f l = some (mayM l) from rfl) ?_
  by_cases h : mayM l = 0
  · obtain ⟨h1, h2, h3⟩ := mayM_zero h
    rw [if_pos h]
    exact Ev.pos h (Ev.bind (digests_ev l (by omega) (fun s hs => by have := h3 s hs; omega)) (up_ev (l.map leafD).length _ rfl (by simpa using h1) (by simp; omega) (leafs_size l)))
  · rw [if_neg h]
    exact Ev.neg h (Ev.some_ rfl)
theorem tdiv2 (i : Nat) (h : i < 1000000) : wrap64 (Int.tdiv (i : Int) 2) = ((i / 2 : Nat) : Int) := by
  rw [Int.tdiv_eq_ediv_of_nonneg (by omega)]
  unfold wrap64
  omega
theorem path_l0 (n : Nat) : ∀ (l : List ByteArray) (i : Nat) (acc : List ByteArray), l.length = n → 1 ≤ n → n ≤ 256 → i < n → acc.length + n ≤ 2000 → (∀ s ∈ l, s.size = 32) → Ev (fun k => merkle_Path.l0 k (i : Int) acc l) (acc ++ wayM l i, 0) := by
  induction n using Nat.strongRecOn with
  | _ n ih =>
    intro l i acc hl h1 h2 hi ha hs
    refine Ev.succ ?_
    simp only [merkle_Path.l0]
    by_cases h : n = 1
    · obtain ⟨a, rfl⟩ := list1 l (by omega)
      refine Ev.neg (by simp) (Ev.some_ ?_)
      rw [wayM_one, List.append_nil]
    · have hp := pairsM_length l
      have hsb : sib i ≤ i + 1 := by unfold sib; split <;> omega
      rw [sib_xor i (by omega), tdiv2 i (by omega), rdOf_at, way_step n l i hl (by omega) hi]
      refine Ev.pos (by omega) ?_
      unfold sibL
      by_cases hc : sib i < l.length
      · have := ih (pairsM l).length (by omega) (pairsM l) (i / 2) (acc ++ [l.getD (sib i) ByteArray.empty]) rfl (by omega) (by omega) (by omega) (by simp; omega) (pairsM_size l hs)
        rw [List.append_assoc] at this
        rw [if_pos hc]
        exact Ev.pos (by omega) (Ev.pos (by omega) (Ev.pos (by omega) (Ev.bind (pairs_ev l (by omega) hs) this)))
      · have := ih (pairsM l).length (by omega) (pairsM l) (i / 2) acc rfl (by omega) (by omega) (by omega) (by omega) (pairsM_size l hs)
        rw [if_neg hc]
        exact Ev.neg (by omega) (Ev.bind (pairs_ev l (by omega) hs) this)
def inP (n i : Int) : Bool := decide (1 ≤ n ∧ n ≤ 256 ∧ 0 ≤ i ∧ i < n)
theorem in_f (n i : Int) : merkle_in.f n i = some (inP n i) := by
  unfold merkle_in.f inP
  by_cases a : n ≥ 1
  · rw [if_pos a]
    by_cases b : n ≤ 256
    · rw [if_pos b]
      by_cases c : i ≥ 0
      · rw [if_pos c]
        by_cases d : i < n
        · rw [decide_eq_true d, decide_eq_true (by omega)]
        · rw [decide_eq_false d, decide_eq_false (by omega)]
      · rw [if_neg c, decide_eq_false (by omega)]
    · rw [if_neg b, decide_eq_false (by omega)]
  · rw [if_neg a, decide_eq_false (by omega)]
def pathR (l : List ByteArray) (i : Int) : List ByteArray × Int :=
  if mayM l = 0 then (if inP l.length i = true then (wayM (l.map leafD) i.toNat, 0) else ([], 1)) else ([], mayM l)
theorem Path_ev (l : List ByteArray) (i : Int) : Ev (fun k => merkle_Path.f k l i) (pathR l i) := by
  unfold merkle_Path.f pathR
  refine Ev.call (show merkle_may.f l = some (mayM l) from rfl) ?_
  by_cases h : mayM l = 0
  · obtain ⟨h1, h2, h3⟩ := mayM_zero h
    rw [if_pos h]
    refine Ev.pos h (Ev.call (in_f _ _) ?_)
    by_cases c : inP l.length i = true
    · rw [if_pos c]
      have c' := of_decide_eq_true c
      refine Ev.pos c (Ev.bind (digests_ev l (by omega) (fun s hs => by have := h3 s hs; omega)) ?_)
      have := path_l0 (l.map leafD).length (l.map leafD) i.toNat [] rfl (by simpa using h1) (by simpa using h2) (by simp; omega) (by simp; omega) (leafs_size l)
      rw [show ((i.toNat : Nat) : Int) = i by omega] at this
      exact this
    · rw [if_neg c]
      exact Ev.neg c (Ev.some_ rfl)
  · rw [if_neg h]
    exact Ev.neg h (Ev.some_ rfl)

/-! ### How long a path is -/
theorem depth_one (k : Nat) (n i d : Int) : merkle_Depth.l0 (k + 1) n i d = if n > 1 then (if (Go.bits .xor .i64 i 1) < n then (merkle_Depth.l0 k (wrap64 (Int.tdiv (wrap64 (n + 1)) 2)) (wrap64 (Int.tdiv i 2)) (wrap64 (d + 1))) else (merkle_Depth.l0 k (wrap64 (Int.tdiv (wrap64 (n + 1)) 2)) (wrap64 (Int.tdiv i 2)) d)) else (some d) := rfl
theorem depth_l0 (j : Nat) : ∀ (k n i d : Nat), n ≤ 2 ^ j → i < n → n ≤ 256 → d + n ≤ 2000 → merkle_Depth.l0 (k + j + 1) (n : Int) (i : Int) (d : Int) = some ((d + depthM n i : Nat) : Int) := by
  induction j with
  | zero =>
    intro k n i d h hi hn hd
    have : n = 1 := by simp at h; omega
    subst this
    simp only [merkle_Depth.l0]
    rw [if_neg (by omega), depthM_one _ _ (by omega)]
    rfl
  | succ j ih =>
    intro k n i d h hi hn hd
    by_cases h1 : n = 1
    · subst h1
      simp only [merkle_Depth.l0]
      rw [if_neg (by omega), depthM_one _ _ (by omega)]
      rfl
    · rw [Nat.pow_succ] at h
      have e1 : wrap64 (Int.tdiv (wrap64 ((n : Int) + 1)) 2) = (((n + 1) / 2 : Nat) : Int) := by
        rw [wrap_succ n (by omega), tdiv2 _ (by omega)]
      rw [show k + (j + 1) + 1 = (k + j + 1) + 1 by omega, depth_one, if_pos (by omega), sib_xor i (by omega), e1, tdiv2 i (by omega), wrap_succ d (by omega), depth_step n i (by omega) hi]
      by_cases hc : sib i < n
      · rw [if_pos (by omega), if_pos hc, ih k _ _ _ (by omega) (by omega) (by omega) (by omega)]
        congr 1
        omega
      · rw [if_neg (by omega), if_neg hc, ih k _ _ _ (by omega) (by omega) (by omega) (by omega)]
        congr 1
        omega
def depthR (n i : Int) : Int := if inP n i = true then (depthM n.toNat i.toNat : Int) else -1
theorem Depth_f (k : Nat) (n i : Int) : merkle_Depth.f (k + 9) n i = some (depthR n i) := by
  unfold merkle_Depth.f depthR
  rw [in_f]
  simp only [Option.bind_some]
  by_cases c : inP n i = true
  · rw [if_pos c, if_pos c]
    have c' := of_decide_eq_true c
    have := depth_l0 8 k n.toNat i.toNat 0 (by omega) (by omega) (by omega) (by omega)
    rw [show ((n.toNat : Nat) : Int) = n by omega, show ((i.toNat : Nat) : Int) = i by omega, Nat.zero_add] at this
    exact this
  · rw [if_neg c, if_neg c]
theorem Depth_ev (n i : Int) : Ev (fun k => merkle_Depth.f k n i) (depthR n i) := by
  refine ⟨9, fun k hk => ?_⟩
  obtain ⟨k, rfl⟩ : ∃ m, k = m + 9 := ⟨k - 9, by omega⟩
  exact Depth_f k n i
theorem refdepth_l0 (n : Nat) : ∀ (i d : Nat), 1 ≤ n → n ≤ 1000 → i < n → d + n ≤ 10000 → Ev (fun k => mosaicref03_Depth.l0 k (n : Int) (i : Int) (d : Int)) ((d + depthM n i : Nat) : Int) := by
  induction n using Nat.strongRecOn with
  | _ n ih =>
    intro i d h1 hn hi hd
    refine Ev.succ ?_
    simp only [mosaicref03_Depth.l0]
    by_cases h : n = 1
    · refine Ev.neg (by omega) (Ev.some_ ?_)
      rw [depthM_one _ _ (by omega)]
      rfl
    · have hlt := halfN_lt n (by omega)
      have hps := halfN_pos n
      rw [wrap_succ d (by omega)]
      refine Ev.pos (by omega) (Ev.bind (half_ev n (by omega) (by omega)) ?_)
      by_cases c : i < halfN n
      · have := ih (halfN n) hlt i (d + 1) (by omega) (by omega) c (by omega)
        refine Ev.pos (by omega) (this.to ?_)
        rw [depthM_left n i (by omega) c]
        congr 1
        omega
      · have := ih (n - halfN n) (by omega) (i - halfN n) (d + 1) (by omega) (by omega) (by omega) (by omega)
        have e1 : wrap64 ((n : Int) - (halfN n : Int)) = ((n - halfN n : Nat) : Int) := by unfold wrap64; omega
        have e2 : wrap64 ((i : Int) - (halfN n : Int)) = ((i - halfN n : Nat) : Int) := by unfold wrap64; omega
        rw [e1, e2]
        refine Ev.neg (by omega) (this.to ?_)
        rw [depthM_right n i (by omega) c]
        congr 1
        omega
theorem refDepth_ev (n i : Int) : Ev (fun k => mosaicref03_Depth.f k n i) (depthR n i) := by
  unfold mosaicref03_Depth.f depthR
  have j1 : ∀ b : Bool, b = true → Ev (fun k => mosaicref03_Depth.j0 k n i b) (-1) := by
    rintro b rfl
    refine Ev.succ ?_
    simp only [mosaicref03_Depth.j0]
    exact Ev.pos trivial (Ev.some_ rfl)
  by_cases a : n < 1
  · rw [if_neg (by unfold inP; simp; omega)]
    exact Ev.pos a (j1 _ rfl)
  by_cases b : n > 256
  · rw [if_neg (by unfold inP; simp; omega)]
    exact Ev.neg a (Ev.pos b (j1 _ rfl))
  by_cases c : i < 0
  · rw [if_neg (by unfold inP; simp; omega)]
    exact Ev.neg a (Ev.neg b (Ev.pos c (j1 _ rfl)))
  by_cases d : i ≥ n
  · rw [if_neg (by unfold inP; simp; omega)]
    exact Ev.neg a (Ev.neg b (Ev.neg c (j1 _ (decide_eq_true d))))
  rw [if_pos (by unfold inP; simp; omega), decide_eq_false d]
  refine Ev.neg a (Ev.neg b (Ev.neg c (Ev.succ ?_)))
  simp only [mosaicref03_Depth.j0]
  have := refdepth_l0 n.toNat i.toNat 0 (by omega) (by omega) (by omega) (by omega)
  rw [show ((n.toNat : Nat) : Int) = n by omega, show ((i.toNat : Nat) : Int) = i by omega, Nat.zero_add] at this
  exact Ev.neg (by simp) this

/-! ### The reference's lists -/
theorem refmay_l0 (l : List ByteArray) (hl : l.length ≤ 256) (d : Nat) : ∀ i : Nat, i + d = l.length → Ev (fun k => mosaicref03_May.l0 k l (i : Int)) (if (l.drop i).any longB = true then 2 else 0) := by
  induction d with
  | zero =>
    intro i hi
    refine Ev.succ ?_
    simp only [mosaicref03_May.l0]
    refine Ev.neg (by omega) (Ev.some_ ?_)
    rw [List.drop_of_length_le (by omega)]
    rfl
  | succ d ih =>
    intro i hi
    refine Ev.succ ?_
    simp only [mosaicref03_May.l0]
    rw [drop_getD l i (by omega), List.any_cons, rdOf_at, wrap_succ i (by omega)]
    refine Ev.pos (by omega) (Ev.pos (by omega) ?_)
    by_cases c : ((l.getD i ByteArray.empty).size : Int) > 1024
    · refine Ev.pos c (Ev.some_ ?_)
      rw [show longB (l.getD i ByteArray.empty) = true from decide_eq_true c]
      rfl
    · refine Ev.neg c ((ih (i + 1) (by omega)).to ?_)
      rw [show longB (l.getD i ByteArray.empty) = false from decide_eq_false c, Bool.false_or]
theorem refMay_ev (l : List ByteArray) : Ev (fun k => mosaicref03_May.f k l) (mayM l) := by
  unfold mosaicref03_May.f mayM
  by_cases a : l.length = 0
  · rw [if_pos a]
    exact Ev.pos (by omega) (Ev.some_ rfl)
  by_cases b : 256 < l.length
  · rw [if_neg a, if_pos b]
    exact Ev.neg (by omega) (Ev.pos (by omega) (Ev.some_ rfl))
  rw [if_neg a, if_neg b]
  exact Ev.neg (by omega) (Ev.neg (by omega) (refmay_l0 l (by omega) l.length 0 (by omega)))
theorem topM_size (n : Nat) : ∀ l : List ByteArray, l.length = n → 1 ≤ n → (∀ s ∈ l, s.size = 32) → (topM l).size = 32 := by
  intro l hl h1 hs
  by_cases h : n = 1
  · obtain ⟨a, rfl⟩ := list1 l (by omega)
    rw [topM_one]
    exact hs a (by simp)
  · rw [topM_two l (by omega)]
    exact knotD_size _ _
theorem refTop_ev (n : Nat) : ∀ l : List ByteArray, l.length = n → 1 ≤ n → n ≤ 1000 → (∀ s ∈ l, s.size ≤ 60000) → Ev (fun k => mosaicref03_Top.f k l) (topM (l.map leafD)) := by
  induction n using Nat.strongRecOn with
  | _ n ih =>
    intro l hl h1 hn hs
    refine Ev.succ ?_
    simp only [mosaicref03_Top.f]
    by_cases h : n = 1
    · obtain ⟨a, rfl⟩ := list1 l (by omega)
      have ha := hs a (by simp)
      have hz := leafT_size a
      refine Ev.pos rfl (Ev.pos (by simp) (Ev.call (leafText_f a (by omega)) (Ev.bind (refsum_ev _ (by omega)) (Ev.some_ ?_))))
      show leafD a = topM [leafD a]
      rw [topM_one]
    · have hlt := halfN_lt l.length (by omega)
      have hps := halfN_pos l.length
      have e1 : (l.take (halfN l.length)).length = halfN l.length := by rw [List.length_take]; omega
      have e2 : (l.drop (halfN l.length)).length = l.length - halfN l.length := List.length_drop
      have i1 := ih _ (by omega) (l.take (halfN l.length)) e1 (by omega) (by omega) (fun s hx => hs s (List.mem_of_mem_take hx))
      have i2 := ih _ (by omega) (l.drop (halfN l.length)) e2 (by omega) (by omega) (fun s hx => hs s (List.mem_of_mem_drop hx))
      have z1 := topM_size _ ((l.take (halfN l.length)).map leafD) rfl (by rw [List.length_map, e1]; omega) (leafs_size _)
      have z2 := topM_size _ ((l.drop (halfN l.length)).map leafD) rfl (by rw [List.length_map, e2]; omega) (leafs_size _)
      have hz := knotT_size (topM ((l.take (halfN l.length)).map leafD)) (topM ((l.drop (halfN l.length)).map leafD))
      refine Ev.neg (by omega) (Ev.bind (half_ev l.length (by omega) (by omega)) (Ev.pos (by omega) (Ev.pos (by omega) (Ev.bind i1 (Ev.bind i2 (Ev.call (knotText_f _ _ (by omega)) (Ev.bind (refsum_ev _ (by omega)) (Ev.some_ ?_))))))))
      rw [topM_two (l.map leafD) (by rw [List.length_map]; omega), List.length_map, List.map_take, List.map_drop]
      rfl
theorem refRoot_ev (l : List ByteArray) : Ev (fun k => mosaicref03_Root.f k l) (if mayM l = 0 then (topM (l.map leafD), 0) else ((⟨#[]⟩ : ByteArray), mayM l)) := by
  unfold mosaicref03_Root.f
  refine Ev.bind (refMay_ev l) ?_
  by_cases h : mayM l = 0
  · obtain ⟨h1, h2, h3⟩ := mayM_zero h
    rw [if_pos h]
    exact Ev.pos h (Ev.bind (refTop_ev l.length l rfl h1 (by omega) (fun s hs => by have := h3 s hs; omega)) (Ev.some_ rfl))
  · rw [if_neg h]
    exact Ev.neg h (Ev.some_ rfl)
theorem depthM_le (n : Nat) : ∀ i, depthM n i ≤ n := by
  induction n using Nat.strongRecOn with
  | _ n ih =>
    intro i
    by_cases h : n ≤ 1
    · rw [depthM_one n i h]
      omega
    · have hlt := halfN_lt n (by omega)
      have hps := halfN_pos n
      by_cases c : i < halfN n
      · rw [depthM_left n i (by omega) c]
        have := ih (halfN n) hlt i
        omega
      · rw [depthM_right n i (by omega) c]
        have := ih (n - halfN n) (by omega) (i - halfN n)
        omega
theorem refway_ev (n : Nat) : ∀ (l : List ByteArray) (i : Nat), l.length = n → 1 ≤ n → n ≤ 1000 → i < n → (∀ s ∈ l, s.size ≤ 60000) → Ev (fun k => mosaicref03_way.f k l (i : Int)) (wayM (l.map leafD) i) := by
  induction n using Nat.strongRecOn with
  | _ n ih =>
    intro l i hl h1 hn hi hs
    refine Ev.succ ?_
    simp only [mosaicref03_way.f]
    by_cases h : n = 1
    · obtain ⟨a, rfl⟩ := list1 l (by omega)
      refine Ev.pos rfl (Ev.some_ ?_)
      show [] = wayM [leafD a] i
      rw [wayM_one]
    · have hlt := halfN_lt l.length (by omega)
      have hps := halfN_pos l.length
      have e1 : (l.take (halfN l.length)).length = halfN l.length := by rw [List.length_take]; omega
      have e2 : (l.drop (halfN l.length)).length = l.length - halfN l.length := List.length_drop
      have t1 := refTop_ev _ (l.take (halfN l.length)) rfl (by omega) (by omega) (fun s hx => hs s (List.mem_of_mem_take hx))
      have t2 := refTop_ev _ (l.drop (halfN l.length)) rfl (by omega) (by omega) (fun s hx => hs s (List.mem_of_mem_drop hx))
      have hlm : (l.map leafD).length = l.length := List.length_map _
      refine Ev.neg (by omega) (Ev.bind (half_ev l.length (by omega) (by omega)) ?_)
      by_cases c : i < halfN l.length
      · have i1 := ih _ (by omega) (l.take (halfN l.length)) i e1 (by omega) (by omega) (by omega) (fun s hx => hs s (List.mem_of_mem_take hx))
        have hw := way_length _ ((l.take (halfN l.length)).map leafD) i rfl
        have hd := depthM_le ((l.take (halfN l.length)).map leafD).length i
        rw [List.length_map] at hd hw
        refine Ev.pos (by omega) (Ev.pos (by omega) (Ev.pos (by omega) (Ev.bind i1 (Ev.bind t2 (Ev.pos (by omega) (Ev.some_ ?_))))))
        rw [wayM_left (l.map leafD) i (by omega) (by rw [hlm]; exact c), hlm, List.map_take, List.map_drop]
      · have i1 := ih _ (by omega) (l.drop (halfN l.length)) (i - halfN l.length) e2 (by omega) (by omega) (by omega) (fun s hx => hs s (List.mem_of_mem_drop hx))
        have hw := way_length _ ((l.drop (halfN l.length)).map leafD) (i - halfN l.length) rfl
        have hd := depthM_le ((l.drop (halfN l.length)).map leafD).length (i - halfN l.length)
        rw [List.length_map] at hd hw
        have e3 : wrap64 ((i : Int) - (halfN l.length : Int)) = ((i - halfN l.length : Nat) : Int) := by unfold wrap64; omega
        rw [e3]
        refine Ev.neg (by omega) (Ev.pos (by omega) (Ev.pos (by omega) (Ev.bind i1 (Ev.bind t1 (Ev.pos (by omega) (Ev.some_ ?_))))))
        rw [wayM_right (l.map leafD) i (by omega) (by rw [hlm]; exact c), hlm, List.map_take, List.map_drop]
theorem refPath_ev (l : List ByteArray) (i : Int) : Ev (fun k => mosaicref03_Path.f k l i) (pathR l i) := by
  unfold mosaicref03_Path.f pathR
  refine Ev.bind (refMay_ev l) ?_
  by_cases h : mayM l = 0
  · obtain ⟨h1, h2, h3⟩ := mayM_zero h
    rw [if_pos h]
    refine Ev.pos h ?_
    by_cases c : i < 0
    · rw [if_neg (by unfold inP; simp; omega)]
      exact Ev.pos c (Ev.some_ rfl)
    by_cases d : i ≥ (l.length : Int)
    · rw [if_neg (by unfold inP; simp; omega)]
      exact Ev.neg c (Ev.pos d (Ev.some_ rfl))
    rw [if_pos (by unfold inP; simp; omega)]
    have := refway_ev l.length l i.toNat rfl h1 (by omega) (by omega) (fun s hs => by have := h3 s hs; omega)
    rw [show ((i.toNat : Nat) : Int) = i by omega] at this
    exact Ev.neg c (Ev.neg d (Ev.bind this (Ev.some_ rfl)))
  · rw [if_neg h]
    exact Ev.neg h (Ev.some_ rfl)
theorem same_l0 (l : List ByteArray) (hl : l.length ≤ 9223372036854775806) (d : Nat) : ∀ i : Nat, i + d = l.length → Ev (fun k => mosaicref03_Same.l0 k l l (i : Int)) true := by
  induction d with
  | zero =>
    intro i hi
    refine Ev.succ ?_
    simp only [mosaicref03_Same.l0]
    exact Ev.neg (by omega) (Ev.some_ rfl)
  | succ d ih =>
    intro i hi
    refine Ev.succ ?_
    simp only [mosaicref03_Same.l0]
    rw [wrap_succ i (by omega)]
    exact Ev.pos (by omega) (Ev.pos (by omega) (Ev.pos (by omega) (Ev.pos trivial (ih (i + 1) (by omega)))))
theorem same_ev (l : List ByteArray) (hl : l.length ≤ 9223372036854775806) : Ev (fun k => mosaicref03_Same.f k l l) true := Ev.pos rfl (same_l0 l hl l.length 0 (by omega))
theorem few_l0 (l : List ByteArray) (m : Int) (hl : l.length ≤ 1000) (d : Nat) : ∀ i : Nat, i + d = l.length → ∃ b, Ev (fun k => mosaiclaw03_few.l0 k l m (i : Int)) b ∧ (b = true → ∀ s ∈ l.drop i, (s.size : Int) ≤ m) := by
  induction d with
  | zero =>
    intro i hi
    refine ⟨true, Ev.succ ?_, fun _ s hs => ?_⟩
    · simp only [mosaiclaw03_few.l0]
      exact Ev.neg (by omega) (Ev.some_ rfl)
    · rw [List.drop_of_length_le (by omega)] at hs
      simp at hs
  | succ d ih =>
    intro i hi
    obtain ⟨b, h1, h2⟩ := ih (i + 1) (by omega)
    by_cases c : ((l.getD i ByteArray.empty).size : Int) > m
    · refine ⟨false, Ev.succ ?_, fun h => by simp at h⟩
      simp only [mosaiclaw03_few.l0]
      rw [rdOf_at]
      exact Ev.pos (by omega) (Ev.pos (by omega) (Ev.pos c (Ev.some_ rfl)))
    · refine ⟨b, Ev.succ ?_, fun hb s hs => ?_⟩
      · simp only [mosaiclaw03_few.l0]
        rw [rdOf_at, wrap_succ i (by omega)]
        exact Ev.pos (by omega) (Ev.pos (by omega) (Ev.neg c h1))
      · rw [drop_getD l i (by omega)] at hs
        rcases List.mem_cons.1 hs with rfl | hs
        · omega
        · exact h2 hb s hs
theorem few_ev (l : List ByteArray) (n m : Int) (hn : n ≤ 1000) : ∃ b, Ev (fun k => mosaiclaw03_few.f k l n m) b ∧ (b = true → (l.length : Int) ≤ n ∧ ∀ s ∈ l, (s.size : Int) ≤ m) := by
  unfold mosaiclaw03_few.f
  by_cases c : (l.length : Int) > n
  · exact ⟨false, Ev.pos c (Ev.some_ rfl), fun h => by simp at h⟩
  · obtain ⟨b, h1, h2⟩ := few_l0 l m (by omega) l.length 0 (by omega)
    exact ⟨b, Ev.neg c h1, fun hb => ⟨by omega, h2 hb⟩⟩

/-! ### The page's example -/
theorem halfN_3 : halfN 3 = 2 := by decide
theorem top3 (a b c : ByteArray) : topM [a, b, c] = knotD (knotD a b) c := by
  rw [topM_two _ (by simp)]
  show knotD (topM ([a, b, c].take (halfN 3))) (topM ([a, b, c].drop (halfN 3))) = _
  rw [halfN_3]
  show knotD (topM [a, b]) (topM [c]) = _
  rw [topM_one, topM_two _ (by simp)]
  show knotD (knotD (topM ([a, b].take (halfN 2))) (topM ([a, b].drop (halfN 2)))) c = _
  rw [halfN_2]
  show knotD (knotD (topM [a]) (topM [b])) c = _
  rw [topM_one, topM_one]
theorem way30 (a b c : ByteArray) : wayM [a, b, c] 0 = [b, c] := by
  rw [wayM_left _ _ (by simp) (by show 0 < halfN 3; rw [halfN_3]; omega)]
  show wayM ([a, b, c].take (halfN 3)) 0 ++ [topM ([a, b, c].drop (halfN 3))] = _
  rw [halfN_3]
  show wayM [a, b] 0 ++ [topM [c]] = _
  rw [topM_one, wayM_left _ _ (by simp) (by show 0 < halfN 2; rw [halfN_2]; omega)]
  show (wayM ([a, b].take (halfN 2)) 0 ++ [topM ([a, b].drop (halfN 2))]) ++ [c] = _
  rw [halfN_2]
  show (wayM [a] 0 ++ [topM [b]]) ++ [c] = _
  rw [topM_one, wayM_one]
  rfl
theorem way32 (a b c : ByteArray) : wayM [a, b, c] 2 = [knotD a b] := by
  rw [wayM_right _ _ (by simp) (by show ¬ 2 < halfN 3; rw [halfN_3]; omega)]
  show wayM ([a, b, c].drop (halfN 3)) (2 - halfN 3) ++ [topM ([a, b, c].take (halfN 3))] = _
  rw [halfN_3]
  show wayM [c] 0 ++ [topM [a, b]] = _
  rw [wayM_one, topM_two _ (by simp)]
  show [] ++ [knotD (topM ([a, b].take (halfN 2))) (topM ([a, b].drop (halfN 2)))] = _
  rw [halfN_2]
  show [] ++ [knotD (topM [a]) (topM [b])] = _
  rw [topM_one, topM_one]
  rfl
theorem awake03T : Ev (fun k => mosaiclaw03_awakeT.f k) true := by
  unfold mosaiclaw03_awakeT.f
  have hm : mayM [(⟨#[97]⟩ : ByteArray), (⟨#[98]⟩ : ByteArray), (⟨#[99]⟩ : ByteArray)] = 0 := by decide +kernel
  have hr := Root_ev [(⟨#[97]⟩ : ByteArray), (⟨#[98]⟩ : ByteArray), (⟨#[99]⟩ : ByteArray)]
  have p0 := Path_ev [(⟨#[97]⟩ : ByteArray), (⟨#[98]⟩ : ByteArray), (⟨#[99]⟩ : ByteArray)] 0
  have p2 := Path_ev [(⟨#[97]⟩ : ByteArray), (⟨#[98]⟩ : ByteArray), (⟨#[99]⟩ : ByteArray)] 2
  unfold pathR at p0 p2
  rw [if_pos hm] at hr p0 p2
  rw [if_pos (by decide)] at p0 p2
  simp only [List.map_cons, List.map_nil] at hr p0 p2
  rw [top3] at hr
  rw [show (0 : Int).toNat = 0 from rfl, way30] at p0
  rw [show (2 : Int).toNat = 2 from rfl, way32] at p2
  have za : (⟨#[97]⟩ : ByteArray).size ≤ 65535 := by decide
  have zb : (⟨#[98]⟩ : ByteArray).size ≤ 65535 := by decide
  have zc : (⟨#[99]⟩ : ByteArray).size ≤ 65535 := by decide
  have sa := leafD_size ⟨#[97]⟩
  have sb := leafD_size ⟨#[98]⟩
  have sc := leafD_size ⟨#[99]⟩
  have sk := knotD_size (leafD ⟨#[97]⟩) (leafD ⟨#[98]⟩)
  refine Ev.some_bind (Ev.bind hr (Ev.bind p0 (Ev.bind p2 (Ev.call (leaf_f _ za) (Ev.call (leaf_f _ zb) (Ev.call (Knot_f _ _ (by omega)) (Ev.pos rfl (Ev.pos rfl (Ev.pos rfl (Ev.call (leaf_f _ zc) (Ev.call (Knot_f _ _ (by omega)) (Ev.pos rfl (Ev.pos rfl (Ev.pos (by simp) (Ev.call (leaf_f _ zb) (Ev.pos rfl (Ev.pos rfl (Ev.pos (by simp) (Ev.pos rfl (Ev.some_ ?_))))))))))))))))))))
  rw [knotD_size]
  rfl
theorem awake03 : Ev (fun k => mosaiclaw03_awake.f k) true := by
  obtain ⟨K, h⟩ := awake03T
  refine ⟨K, fun k hk => ?_⟩
  show (if mosaiclaw03_awakeT.f k = some true then some true else none) = some true
  exact if_pos (h k hk)
end Go.Proofs.Ytelcaepenfjloaa.Pure
/-! #### PureMerkleDepths -/
/- How long a path is, of any numbers: as the document says, and at most as many as double 1 to n or above. -/
namespace Go.Proofs.Ytelcaepenfjloaa.Pure
open Go.RowKit Go.Proofs.Ytelcaepenfjloaa.Print Go.Proofs.YtelcaepenfjloaaW.PrintWords Go.Proofs.YtelcaepenfjloaaW.PrintLast
set_option linter.unusedVariables false

/-- A path of d steps stands below more than half of 2^d leaves. -/
theorem depth_half (j : Nat) : ∀ n i : Nat, n ≤ 2 ^ j → i < n → depthM n i ≤ j := by
  induction j with
  | zero =>
    intro n i h hi
    rw [depthM_one n i (by simp at h; omega)]
    omega
  | succ j ih =>
    intro n i h hi
    rw [Nat.pow_succ] at h
    by_cases h1 : n ≤ 1
    · rw [depthM_one n i h1]
      omega
    · have := ih ((n + 1) / 2) (i / 2) (by omega) (by omega)
      rw [depth_step n i (by omega) hi]
      split <;> omega
theorem depth_few (d : Nat) (n i : Nat) (hi : i < n) (hd : depthM n i = d + 1) : 2 ^ d < n := by
  rcases Nat.lt_or_ge (2 ^ d) n with h | h
  · exact h
  · have := depth_half d n i h hi
    omega
theorem depths_l0 (n dd : Nat) (hn : n ≤ 256) (hd : dd ≤ 8) (hp : dd = 0 ∨ 2 ^ (dd - 1) < n) (d : Nat) : ∀ j : Nat, dd - 1 = j + d → Ev (fun k => mosaiclaw03_MerkleDepths.l0 k (n : Int) (dd : Int) ((2 ^ j : Nat) : Int) (j : Int)) true := by
  induction d with
  | zero =>
    intro j hj
    refine Ev.succ ?_
    simp only [mosaiclaw03_MerkleDepths.l0]
    have e : wrap64 ((dd : Int) - 1) = (dd : Int) - 1 := by unfold wrap64; omega
    rw [e]
    refine Ev.neg (by omega) (Ev.bind awake03 (Ev.pos rfl (Ev.pos (by omega) ?_)))
    by_cases h0 : dd = 0
    · exact Ev.pos (by omega) (Ev.some_ rfl)
    · refine Ev.neg (by omega) (Ev.some_ (decide_eq_true ?_))
      rw [hj] at hp
      rcases hp with hp | hp
      · exact absurd hp h0
      · rw [Nat.add_zero] at hp
        omega
  | succ d ih =>
    intro j hj
    have hpow : 2 ^ j ≤ 2 ^ 8 := Nat.pow_le_pow_right (by decide) (by omega)
    have := ih (j + 1) (by omega)
    rw [Nat.pow_succ] at this
    refine Ev.succ ?_
    simp only [mosaiclaw03_MerkleDepths.l0]
    generalize 2 ^ j = x at this hpow ⊢
    have e : wrap64 ((dd : Int) - 1) = (dd : Int) - 1 := by unfold wrap64; omega
    have e2 : wrap64 ((x : Int) * 2) = ((x * 2 : Nat) : Int) := by unfold wrap64; omega
    rw [e, e2, wrap_succ j (by omega)]
    exact Ev.pos (by omega) (Ev.pos (by omega) this)
theorem MerkleDepths : mosaiclaw03_MerkleDepths.Pure := by
  intro n i hn hi
  refine Ev.rounds ?_
  unfold mosaiclaw03_MerkleDepths.f
  refine Ev.bind (Depth_ev n i) (Ev.bind (refDepth_ev n i) (Ev.pos rfl ?_))
  by_cases c : inP n i = true
  · have c' := of_decide_eq_true c
    have e : depthR n i = (depthM n.toNat i.toNat : Int) := if_pos c
    have h8 := depth_half 8 n.toNat i.toNat (by omega) (by omega)
    rw [e]
    have hp : depthM n.toNat i.toNat = 0 ∨ 2 ^ (depthM n.toNat i.toNat - 1) < n.toNat := by
      rcases Nat.eq_zero_or_pos (depthM n.toNat i.toNat) with h | h
      · exact .inl h
      · exact .inr (depth_few (depthM n.toNat i.toNat - 1) n.toNat i.toNat (by omega) (by omega))
    have := depths_l0 n.toNat _ (by omega) h8 hp _ 0 (Nat.zero_add _).symm
    rw [show ((n.toNat : Nat) : Int) = n by omega] at this
    exact Ev.neg (by omega) this
  · have e : depthR n i = -1 := if_neg c
    rw [e]
    refine Ev.pos (by omega) (Ev.bind awake03 (Ev.pos rfl (Ev.pos rfl ?_)))
    unfold inP at c
    rw [decide_eq_true_eq] at c
    by_cases a : n < 1
    · exact Ev.pos a (Ev.some_ rfl)
    by_cases b : n > 256
    · exact Ev.neg a (Ev.pos b (Ev.some_ rfl))
    by_cases d : i < 0
    · exact Ev.neg a (Ev.neg b (Ev.pos d (Ev.some_ rfl)))
    · exact Ev.neg a (Ev.neg b (Ev.neg d (Ev.some_ (decide_eq_true (by omega)))))
end Go.Proofs.Ytelcaepenfjloaa.Pure
/-! #### LawMerkleDepths -/
/- The given statement MerkleDepthsSaid is proved: the law mosaiclaw03_MerkleDepths returns true for every input, without a panic; out of its pure statement (YtelcaepenfjloaaPureMerkleDepths) and the walks of the functions that it reaches; no condition beyond the statement's own. -/
namespace Go.Proofs.Ytelcaepenfjloaa.merkleDepths
open Go.ChangeShapes Go.WideShapes Go.ChangeAt Go.RowKit Go.Proofs.Ytelcaepenfjloaa.Print Go.Proofs.YtelcaepenfjloaaW.PrintWords Go.Proofs.Ytelcaepenfjloaa.Open
open Go.ChangeMaps (open_string shut_string)
set_option linter.unusedVariables false
set_option linter.unusedSimpArgs false
theorem own : ownKnob Try.prog.godebug = none := by kernel_rfl
set_option maxRecDepth 100000 in
theorem lifted (os : Os) (started : os.Started) (H : Type) (enc : TypeId × Value → H) :
    ReturnsInHanded {} Try.checked os 12 .any (Rows.merkleDepthsSpec.pre6 enc Try.prog Try.f12 Rows.merkleDepthsRow.domain false) (Rows.merkleDepthsSpec.post enc Try.prog Try.f12 false true false false) := by
  refine returnsInHanded_of_change_sized (C := Try.checked) own started (by kernel_rfl) Try.func12
    (ChangeSpec.witness6 (enc := enc) (C := Try.checked) false ⟨#[], #[.int .i64 0, .int .i64 0], []⟩ 8 (by kernel_rfl) (by kernel_rfl) (by kernel_rfl) (by kernel_rfl)) ?_
  intro W base args ds gs before hval0 hW hcnd hsz0 _
  have hval : ∀ (j : Nat) t v, Try.f12.params[j]? = some t → args[j]? = some v → Value.okWide Try.prog W .any base t v := hval0
  have hW' := hW
  obtain ⟨p, q, hA0, hV, rfl, hfz, hnd⟩ := hW
  have hA : DataW.TrodAll enc Try.prog W 0 (fun _ => true) true Try.f12.params.toList args.toList ds p := hA0
  rw [Try.params12] at hA hval
  obtain ⟨v0, vs0, d0, ds0, p0, q0, hargs, rfl, rfl, h0, r0⟩ := trodAll_cons hA
  obtain ⟨v1, vs1, d1, ds1, p1, q1, rfl, rfl, rfl, h1, r1⟩ := trodAll_cons r0
  obtain ⟨rfl, rfl, rfl⟩ := trodAll_nil r1
  obtain rfl : args = #[v0, v1] := by cases args; simp_all
  obtain ⟨rfl, rfl⟩ := trodVars_none hV
  obtain ⟨a0, rfl, rfl, rfl, w0⟩ := open_int Try.underlying3 (hval 0 3 v0 rfl rfl) h0
  obtain ⟨a1, rfl, rfl, rfl, w1⟩ := open_int Try.underlying3 (hval 1 3 v1 rfl rfl) h1
  clear hA0 hval0 hsz0
  obtain ⟨kk, hkk⟩ := Pure.MerkleDepths (a0) (a1) w0 w1
  refine (mosaiclaw03_MerkleDepths.callsT kk a0 a1 W  hkk).mono ?_
  rintro e W' ⟨rfl, hd_⟩
  have bel : Below W.heap.size W W' := hd_
  exact ⟨_, rfl, _, _, _, [], _, [], hW', trodAll_mk1 (shut_bool Try.underlying4 _), (trodAll_cons_mk (shut_int Try.underlying3 w0) (trodAll_cons_mk (shut_int Try.underlying3 w1) trodAll_mk0)), rfl, bel.frame _, fun h => by cases h⟩
theorem facts : joinedFacts Try.pinned.checked.prog 12 Try.f12 Rows.merkleDepthsSpec Rows.merkleDepthsRow = true := by
  unfold joinedFacts
  simp only [Bool.and_eq_true]
  repeat' apply And.intro
  any_goals (with_reducible exact Fct.mayEnter)
  any_goals ((with_reducible refine Fct.lifts _ ?_); rfl)
  any_goals ((with_reducible refine Fct.make_ _ ?_); rfl)
  all_goals (as_aux_lemma => kernel_rfl)
theorem over : Rows.merkleDepthsRow.holds Try.pinned (OpenSpec.ofChange Rows.merkleDepthsSpec) :=
  OpenClaim.holds_of_wide 12 Try.f12 rfl rfl rfl rfl rfl rfl rfl ⟨rfl, rfl, rfl, rfl, rfl⟩ rfl rfl rfl rfl rfl (by as_aux_lemma => kernel_rfl) Try.func12 facts
    (of_decide_eq_true (by as_aux_lemma => kernel_rfl)) (by unfold Func.isWrapper; first | (rw [if_pos (by decide +kernel)]; as_aux_lemma => kernel_rfl) | (rw [if_neg (by decide +kernel)]; exact ⟨rfl, rfl⟩))
    (fun os started H enc _ => lifted os started H enc)
theorem proved : Rows.MerkleDepthsSaid := over
#print axioms proved
end Go.Proofs.Ytelcaepenfjloaa.merkleDepths
namespace Go.Proofs.Ytelcaepenfjloaa
/-- The row, under a short name, for the claim. -/
theorem merkleDepths_holds : Rows.MerkleDepthsSaid := merkleDepths.proved
end Go.Proofs.Ytelcaepenfjloaa
