/- The proof of the statement PeelOrder of the seat, part 2 of 3: the functions that it reaches, as plain functions, with the walks that show it, and what they come to; the last part ends in the row. No condition beyond the statement's own. -/
import Derived.Test.YtnchcapdfmccjaaWWords
import Derived.Test.YtnchcapdfmccjaaWLast
import Derived.Test.YtnchcapdfmccjaaBPeelOrder1
/-! #### Pr3 -/
-- By the kit's print, called by a program of this session with functions that are proved by hand.
namespace Go.Proofs.Ytnchcapdfmccjaa.Print
open Go.RowKit Go.Proofs.YtnchcapdfmccjaaW.PrintWords Go.Proofs.YtnchcapdfmccjaaW.PrintLast Go.Proofs.YtnchcapdfmccjaaW.PrintMore
attribute [local go_sem] max2_int min2_int max_two min_two max_three min_three max_four min_four
set_option linter.unusedVariables false
set_option linter.unusedSimpArgs false

/-! ### mosaiclaw13_PeelOrder: function 3 -/
mutual
def mosaiclaw13_PeelOrder.j0 : Nat → Int → List (List Int) → List Int → Bool → Option (Bool)
 | 0, _, _, _, _ => none
 | k + 1, x0, x1, x2, x26 => if x26 = true then ((mosaiclaw13_awake.f k).bind fun t285 => (some t285)) else ((peel_Known.f k x0 x1 x2).bind fun bt286 => (mosaiclaw13_PeelOrder.l0 k x0 x1 x2 bt286.1 bt286.2 0))
def mosaiclaw13_PeelOrder.l0 : Nat → Int → List (List Int) → List Int → List Int → Int → Int → Option (Bool)
 | 0, _, _, _, _, _, _ => none
 | k + 1, x0, x1, x2, x7, x8, x9 => if x9 < (x1.length : Int) then (mosaiclaw13_PeelOrder.l1 k x0 x1 x2 x7 x8 x9 ([] : List (List Int)) ([] : List (List Int)) 0) else ((mosaiclaw13_awake.f k).bind fun t290 => (some t290))
def mosaiclaw13_PeelOrder.l1 : Nat → Int → List (List Int) → List Int → List Int → Int → Int → List (List Int) → List (List Int) → Int → Option (Bool)
 | 0, _, _, _, _, _, _, _, _, _ => none
 | k + 1, x0, x1, x2, x7, x8, x9, x10, x11, x12 => if x12 < (x1.length : Int) then (if (x1.length : Int) = 0 then (none) else (if 0 ≤ (Int.tmod (wrap64 (x12 + x9)) (x1.length : Int)) then (if (Int.tmod (wrap64 (x12 + x9)) (x1.length : Int)) < (x1.length : Int) then (if x10.length < 5864062014805 then (if 0 ≤ (wrap64 ((wrap64 ((x1.length : Int) - 1)) - (Int.tmod (wrap64 (x12 + x9)) (x1.length : Int)))) then (if (wrap64 ((wrap64 ((x1.length : Int) - 1)) - (Int.tmod (wrap64 (x12 + x9)) (x1.length : Int)))) < (x1.length : Int) then (if x11.length < 5864062014805 then (mosaiclaw13_PeelOrder.l1 k x0 x1 x2 x7 x8 x9 (x10 ++ [rd_L3 x1 (Int.tmod (wrap64 (x12 + x9)) (x1.length : Int))]) (x11 ++ [rd_L3 x1 (wrap64 ((wrap64 ((x1.length : Int) - 1)) - (Int.tmod (wrap64 (x12 + x9)) (x1.length : Int))))]) (wrap64 (x12 + 1))) else (none)) else (none)) else (none)) else (none)) else (none)) else (none))) else ((peel_Known.f k x0 x10 x2).bind fun bt299 => ((peel_Known.f k x0 x11 x2).bind fun bt303 => ((mosaicref04_Same.f k x7 bt299.1).bind fun t307 => (if t307 = true then ((mosaicref04_Same.f k x7 bt303.1).bind fun t308 => (if t308 = true then (if x8 = bt299.2 then (if x8 = bt303.2 then (mosaiclaw13_PeelOrder.l0 k x0 x1 x2 x7 x8 (wrap64 ((wrap64 (x9 + 1)) + (wrap64 ((x1.length : Int) / 4))))) else (some false)) else (some false)) else (some false))) else (some false)))))
end
def mosaiclaw13_PeelOrder.f (k : Nat) (a0 : Int) (l1 : List (List Int)) (l2 : List Int) : Option (Bool) := (mosaiclaw13_few.f k a0 l1 l2).bind fun t284 => (if t284 = true then (mosaiclaw13_PeelOrder.j0 k a0 l1 l2 ((l1.length : Int) == 0)) else (mosaiclaw13_PeelOrder.j0 k a0 l1 l2 true))
theorem mosaiclaw13_PeelOrder.mono_l : ∀ k, (∀ y0 y1 y2 y3, LeO (mosaiclaw13_PeelOrder.j0 k y0 y1 y2 y3) (mosaiclaw13_PeelOrder.j0 (k + 1) y0 y1 y2 y3)) ∧ (∀ y0 y1 y2 y3 y4 y5, LeO (mosaiclaw13_PeelOrder.l0 k y0 y1 y2 y3 y4 y5) (mosaiclaw13_PeelOrder.l0 (k + 1) y0 y1 y2 y3 y4 y5)) ∧ (∀ y0 y1 y2 y3 y4 y5 y6 y7 y8, LeO (mosaiclaw13_PeelOrder.l1 k y0 y1 y2 y3 y4 y5 y6 y7 y8) (mosaiclaw13_PeelOrder.l1 (k + 1) y0 y1 y2 y3 y4 y5 y6 y7 y8))
 | 0 => ⟨fun _ _ _ _ r h => by simp [mosaiclaw13_PeelOrder.j0] at h, fun _ _ _ _ _ _ r h => by simp [mosaiclaw13_PeelOrder.l0] at h, fun _ _ _ _ _ _ _ _ _ r h => by simp [mosaiclaw13_PeelOrder.l1] at h⟩
 | k + 1 => by
  obtain ⟨ih0, ih1, ih2⟩ := mosaiclaw13_PeelOrder.mono_l k
  refine ⟨?_, ?_, ?_⟩
  ·
   intro y0 y1 y2 y3
   unfold mosaiclaw13_PeelOrder.j0
   repeat' first
   | (with_reducible exact ih0 _ _ _ _)
   | (with_reducible exact ih1 _ _ _ _ _ _)
   | (with_reducible exact ih2 _ _ _ _ _ _ _ _ _)
   | (with_reducible exact mosaiclaw13_awake.mono _)
   | (with_reducible exact mosaiclaw13_few.mono _ _ _ _)
   | (with_reducible exact mosaicref04_Same.mono _ _ _)
   | (with_reducible exact peel_Known.mono _ _ _ _)
   | (with_reducible exact LeO.refl _)
   | (with_reducible exact LeO.none _)
   | (with_reducible refine LeO.ite ?_ ?_)
   | (with_reducible refine LeO.bind ?_ (fun _ => ?_))
   | exact ih0 _ _ _ _
   | exact ih1 _ _ _ _ _ _
   | exact ih2 _ _ _ _ _ _ _ _ _
   | exact mosaiclaw13_awake.mono _
   | exact mosaiclaw13_few.mono _ _ _ _
   | exact mosaicref04_Same.mono _ _ _
   | exact peel_Known.mono _ _ _ _
   | exact LeO.none _
   | refine LeO.ite ?_ ?_
   | refine LeO.bind ?_ (fun _ => ?_)
  ·
   intro y0 y1 y2 y3 y4 y5
   unfold mosaiclaw13_PeelOrder.l0
   repeat' first
   | (with_reducible exact ih0 _ _ _ _)
   | (with_reducible exact ih1 _ _ _ _ _ _)
   | (with_reducible exact ih2 _ _ _ _ _ _ _ _ _)
   | (with_reducible exact mosaiclaw13_awake.mono _)
   | (with_reducible exact mosaiclaw13_few.mono _ _ _ _)
   | (with_reducible exact mosaicref04_Same.mono _ _ _)
   | (with_reducible exact peel_Known.mono _ _ _ _)
   | (with_reducible exact LeO.refl _)
   | (with_reducible exact LeO.none _)
   | (with_reducible refine LeO.ite ?_ ?_)
   | (with_reducible refine LeO.bind ?_ (fun _ => ?_))
   | exact ih0 _ _ _ _
   | exact ih1 _ _ _ _ _ _
   | exact ih2 _ _ _ _ _ _ _ _ _
   | exact mosaiclaw13_awake.mono _
   | exact mosaiclaw13_few.mono _ _ _ _
   | exact mosaicref04_Same.mono _ _ _
   | exact peel_Known.mono _ _ _ _
   | exact LeO.none _
   | refine LeO.ite ?_ ?_
   | refine LeO.bind ?_ (fun _ => ?_)
  ·
   intro y0 y1 y2 y3 y4 y5 y6 y7 y8
   unfold mosaiclaw13_PeelOrder.l1
   repeat' first
   | (with_reducible exact ih0 _ _ _ _)
   | (with_reducible exact ih1 _ _ _ _ _ _)
   | (with_reducible exact ih2 _ _ _ _ _ _ _ _ _)
   | (with_reducible exact mosaiclaw13_awake.mono _)
   | (with_reducible exact mosaiclaw13_few.mono _ _ _ _)
   | (with_reducible exact mosaicref04_Same.mono _ _ _)
   | (with_reducible exact peel_Known.mono _ _ _ _)
   | (with_reducible exact LeO.refl _)
   | (with_reducible exact LeO.none _)
   | (with_reducible refine LeO.ite ?_ ?_)
   | (with_reducible refine LeO.bind ?_ (fun _ => ?_))
   | exact ih0 _ _ _ _
   | exact ih1 _ _ _ _ _ _
   | exact ih2 _ _ _ _ _ _ _ _ _
   | exact mosaiclaw13_awake.mono _
   | exact mosaiclaw13_few.mono _ _ _ _
   | exact mosaicref04_Same.mono _ _ _
   | exact peel_Known.mono _ _ _ _
   | exact LeO.none _
   | refine LeO.ite ?_ ?_
   | refine LeO.bind ?_ (fun _ => ?_)
theorem mosaiclaw13_PeelOrder.mono : ∀ a0 a1 a2 k, LeO (mosaiclaw13_PeelOrder.f k a0 a1 a2) (mosaiclaw13_PeelOrder.f (k + 1) a0 a1 a2) := by
 intro a0 a1 a2 k
 obtain ⟨ih0, ih1, ih2⟩ := mosaiclaw13_PeelOrder.mono_l k
 unfold mosaiclaw13_PeelOrder.f
 repeat' first
   | (with_reducible exact ih0 _ _ _ _)
   | (with_reducible exact ih1 _ _ _ _ _ _)
   | (with_reducible exact ih2 _ _ _ _ _ _ _ _ _)
   | (with_reducible exact mosaiclaw13_awake.mono _)
   | (with_reducible exact mosaiclaw13_few.mono _ _ _ _)
   | (with_reducible exact mosaicref04_Same.mono _ _ _)
   | (with_reducible exact peel_Known.mono _ _ _ _)
   | (with_reducible exact LeO.refl _)
   | (with_reducible exact LeO.none _)
   | (with_reducible refine LeO.ite ?_ ?_)
   | (with_reducible refine LeO.bind ?_ (fun _ => ?_))
   | exact ih0 _ _ _ _
   | exact ih1 _ _ _ _ _ _
   | exact ih2 _ _ _ _ _ _ _ _ _
   | exact mosaiclaw13_awake.mono _
   | exact mosaiclaw13_few.mono _ _ _ _
   | exact mosaicref04_Same.mono _ _ _
   | exact peel_Known.mono _ _ _ _
   | exact LeO.none _
   | refine LeO.ite ?_ ?_
   | refine LeO.bind ?_ (fun _ => ?_)
set_option maxHeartbeats 8000000 in
set_option maxRecDepth 100000 in
theorem mosaiclaw13_PeelOrder.calls (k : Nat) (a0 : Int) (P1_ : Nat → Prop) (A1 : Option Addr) (c1 : Nat) (l1 : List (List Int)) (A2 : Option Addr) (c2 : Nat) (l2 : List Int) (r : Bool) (w : World) (hs1 : Kd.V (Kd.slice 3 (Kd.int .i64)) 23 w w.heap.size (fun k_ => P1_ k_) (.slice A1 l1.length c1) l1) (hr2 : Kd.C (Kd.int .i64) w A2 l2.length l2) (hc2 : l2.length ≤ c2) (h : mosaiclaw13_PeelOrder.f k a0 l1 l2 = some r) :
  Calls Try.prog 3 #[.int .i64 a0, .slice A1 l1.length c1, .slice A2 l2.length c2] w fun e w' => e = .returned (.bool r) ∧ Below w.heap.size w w' := by
 have HO1 := Aside0.mk (show Kd.V (Kd.slice 3 (Kd.int .i64)) 23 w w.heap.size (fun k_ => (P1_ k_ ∨ w.heap.size ≤ k_)) (.slice A1 l1.length c1) l1 from Kd.V_mono hs1 (fun k_ hk => .inl hk))
 have HR2 := Aside0.mk hr2
 have HC2 := Aside0.mk hc2
 clear hr2 hc2
 have HB := Aside0.mk (Below.refl w.heap.size w)
 have H : ((mosaiclaw13_few.f k a0 l1 l2).bind fun t284 => (if t284 = true then (mosaiclaw13_PeelOrder.j0 k a0 l1 l2 ((l1.length : Int) == 0)) else (mosaiclaw13_PeelOrder.j0 k a0 l1 l2 true))) = some r := h
 clear h
 have HC4 := Aside0.mk H
 clear H
 go_enter Try.func3, Try.ntmps3
 go_upto_region 1 with (fail)
 go_cut [26] (fun v26 wc => ∃ (kq : Nat) (x26_3 : Bool), v26 = .bool x26_3 ∧ Aside0 (mosaiclaw13_PeelOrder.j0 kq a0 l1 l2 x26_3 = some r) ∧ Aside0 (kq ≤ k) ∧ Aside0 (Kd.V (Kd.slice 3 (Kd.int .i64)) 23 wc w.heap.size (fun k_ => (P1_ k_ ∨ w.heap.size ≤ k_)) (.slice A1 l1.length c1) l1) ∧ Aside0 (Below w.heap.size w wc))
 case first =>
  have H := HC4.out
  clear HC4
  replace H := Option.bind_eq_some_iff.mp H
  obtain ⟨t284, A50, H⟩ := H
  replace H : (if t284 = true then (mosaiclaw13_PeelOrder.j0 k a0 l1 l2 ((l1.length : Int) == 0)) else (mosaiclaw13_PeelOrder.j0 k a0 l1 l2 true)) = some r := H
  have A5 := Aside0.mk A50
  clear A50
  by_cases c6 : t284 = true
  ·
   subst c6
   have H1 : (mosaiclaw13_PeelOrder.j0 k a0 l1 l2 ((l1.length : Int) == 0)) = some r := by rw [if_pos rfl] at H; exact H
   clear H
   have H := H1
   clear H1
   have H' := Aside0.mk H
   clear H
   go_wp2_with (first | ((with_reducible refine gate_callee (f := 17) rfl ?_); refine goesL_ (some 20) rfl rfl Try.func17 (by kernel_rfl) rfl #[.int .i64 a0, .slice A1 l1.length c1, .slice A2 l2.length c2] rfl (by (try simp only [List.map_toArray, List.map_cons, List.map_nil]); first | done | rfl | (simp only [List.length_drop, List.length_take]; rfl)) ?_; (with_reducible refine (mosaiclaw13_few.calls k a0 _ _ l1 (fun k_ => k_ < w.heap.size) _ _ l2 true _ ?side1 ?side2 ?side3 A5.out).mono ?_); (case side1 => repeat (first | exact (Kd.V_reads' HO1.out).2.2 | (with_reducible refine Kd.C_alloc ?_ _) | (with_reducible refine Kd.C_drewN ?_ _) | (with_reducible refine Kd.C_drew ?_))); (case side2 => exact (Kd.V_reads' HO1.out).2.1); (case side3 => exact Kd.V_mk HC2.out (Kd.F_below (Kd.C_F (Kd.heap_int .i64) HR2.out) (by repeat (first | (with_reducible first | exact HB.out | apply below_alloc | apply pw_below_drewN | apply below_drew1) | exact HB.out)))); rintro e w7 ⟨rfl, hb⟩; refine ⟨_, rfl, ?_⟩; have n0_ := Aside0.mk (Kd.V_below (by (with_reducible repeat (first | apply Kd.V_alloc | apply Kd.V_drewN | apply Kd.V_drew)); exact HO1.out) hb); have n1_ := Aside0.mk (below_step (by repeat (first | (with_reducible first | exact HB.out | apply below_alloc | apply pw_below_drewN | apply below_drew1) | exact HB.out)) hb); clear HO1; clear HB; have HO1 := n0_; have HB := n1_; clear n0_ n1_; (try clear hb); (try clear hb2); (try clear hk); (try clear hi)))
   go_meet
   case rel => exact ⟨_, (((l1.length : Int) == 0)), (by first | rfl | (simp; done) | (simp [*]; done)), H', ⟨by first | omega | exact Nat.le_refl _⟩, ⟨by (with_reducible repeat (first | apply Kd.V_alloc | apply Kd.V_drewN | apply Kd.V_drew)); exact HO1.out⟩, ⟨by repeat (first | (with_reducible first | exact HB.out | apply below_alloc | apply pw_below_drewN | apply below_drew1) | exact HB.out)⟩⟩
  ·
   replace c6 := Bool.eq_false_iff.mpr c6
   subst c6
   have H1 : (mosaiclaw13_PeelOrder.j0 k a0 l1 l2 true) = some r := by rw [if_neg (show ¬ (false = true) by decide)] at H; exact H
   clear H
   have H := H1
   clear H1
   have H' := Aside0.mk H
   clear H
   go_wp2_with (first | ((with_reducible refine gate_callee (f := 17) rfl ?_); refine goesL_ (some 20) rfl rfl Try.func17 (by kernel_rfl) rfl #[.int .i64 a0, .slice A1 l1.length c1, .slice A2 l2.length c2] rfl (by (try simp only [List.map_toArray, List.map_cons, List.map_nil]); first | done | rfl | (simp only [List.length_drop, List.length_take]; rfl)) ?_; (with_reducible refine (mosaiclaw13_few.calls k a0 _ _ l1 (fun k_ => k_ < w.heap.size) _ _ l2 false _ ?side1 ?side2 ?side3 A5.out).mono ?_); (case side1 => repeat (first | exact (Kd.V_reads' HO1.out).2.2 | (with_reducible refine Kd.C_alloc ?_ _) | (with_reducible refine Kd.C_drewN ?_ _) | (with_reducible refine Kd.C_drew ?_))); (case side2 => exact (Kd.V_reads' HO1.out).2.1); (case side3 => exact Kd.V_mk HC2.out (Kd.F_below (Kd.C_F (Kd.heap_int .i64) HR2.out) (by repeat (first | (with_reducible first | exact HB.out | apply below_alloc | apply pw_below_drewN | apply below_drew1) | exact HB.out)))); rintro e w8 ⟨rfl, hb⟩; refine ⟨_, rfl, ?_⟩; have n0_ := Aside0.mk (Kd.V_below (by (with_reducible repeat (first | apply Kd.V_alloc | apply Kd.V_drewN | apply Kd.V_drew)); exact HO1.out) hb); have n1_ := Aside0.mk (below_step (by repeat (first | (with_reducible first | exact HB.out | apply below_alloc | apply pw_below_drewN | apply below_drew1) | exact HB.out)) hb); clear HO1; clear HB; have HO1 := n0_; have HB := n1_; clear n0_ n1_; (try clear hb); (try clear hb2); (try clear hk); (try clear hi)))
   go_meet
   case rel => exact ⟨_, (true), (by first | rfl | (simp; done) | (simp [*]; done)), H', ⟨by first | omega | exact Nat.le_refl _⟩, ⟨by (with_reducible repeat (first | apply Kd.V_alloc | apply Kd.V_drewN | apply Kd.V_drew)); exact HO1.out⟩, ⟨by repeat (first | (with_reducible first | exact HB.out | apply below_alloc | apply pw_below_drewN | apply below_drew1) | exact HB.out)⟩⟩
 case rest =>
  clear HC4
  try clear c1
  try clear c2
  try clear p2
  try clear c3
  try clear c6
  obtain ⟨kq, x26_3, rfl, HA, HJ3, HO_1, HB⟩ := hcut
  cases kq with
  | zero => exact absurd HA.out (by simp [mosaiclaw13_PeelOrder.j0])
  | succ kj3 =>
   have H := HA.out
   clear HA
   simp only [mosaiclaw13_PeelOrder.j0] at H
   by_cases c9 : x26_3 = true
   ·
    subst c9
    have H1 : ((mosaiclaw13_awake.f kj3).bind fun t285 => (some t285)) = some r := by rw [if_pos rfl] at H; exact H
    clear H
    have H := H1
    clear H1
    replace H := Option.bind_eq_some_iff.mp H
    obtain ⟨t285, A100, H⟩ := H
    replace H : (some t285) = some r := H
    have A10 := Aside0.mk A100
    clear A100
    obtain rfl := Option.some.inj H
    go_wp2_with (first | ((with_reducible refine gate_callee (f := 18) rfl ?_); refine goesL_ (some 27) rfl rfl Try.func18 (by kernel_rfl) rfl #[] rfl (by (try simp only [List.map_toArray, List.map_cons, List.map_nil]); first | done | rfl | (simp only [List.length_drop, List.length_take]; rfl)) ?_; (with_reducible refine (mosaiclaw13_awake.calls kj3  t285 _ A10.out).mono ?_); rintro e w11 ⟨rfl, hb⟩; refine ⟨_, rfl, ?_⟩; have n0_ := Aside0.mk (Kd.V_below (by (with_reducible repeat (first | apply Kd.V_alloc | apply Kd.V_drewN | apply Kd.V_drew)); exact HO_1.out) hb); have n1_ := Aside0.mk (below_step (by repeat (first | (with_reducible first | exact HB.out | apply below_alloc | apply pw_below_drewN | apply below_drew1) | exact HB.out)) hb); clear HO_1; clear HB; have HO_1 := n0_; have HB := n1_; clear n0_ n1_; (try clear hb); (try clear hb2); (try clear hk); (try clear hi)))
    go_ret
    exact ⟨by first | rfl | (simp [errW_none, errW_some] <;> rfl) | (simp [*, errW_none, errW_some] <;> rfl), by repeat (first | (with_reducible first | exact HB.out | apply below_alloc | apply pw_below_drewN | apply below_drew1) | exact HB.out)⟩
   ·
    replace c9 := Bool.eq_false_iff.mpr c9
    subst c9
    have H1 : ((peel_Known.f kj3 a0 l1 l2).bind fun bt286 => (mosaiclaw13_PeelOrder.l0 kj3 a0 l1 l2 bt286.1 bt286.2 0)) = some r := by rw [if_neg (show ¬ (false = true) by decide)] at H; exact H
    clear H
    have H := H1
    clear H1
    replace H := Option.bind_eq_some_iff.mp H
    obtain ⟨⟨t286, t287⟩, A120, H⟩ := H
    replace H : (mosaiclaw13_PeelOrder.l0 kj3 a0 l1 l2 t286 t287 0) = some r := H
    have A12 := Aside0.mk A120
    clear A120
    have H' := Aside0.mk H
    clear H
    go_wp2_with (first | ((with_reducible refine gate_callee (f := 19) rfl ?_); refine goesL_ (some 32) rfl rfl Try.func19 (by kernel_rfl) rfl #[.int .i64 a0, .slice A1 l1.length c1, .slice A2 l2.length c2] rfl (by (try simp only [List.map_toArray, List.map_cons, List.map_nil]); first | done | rfl | (simp only [List.length_drop, List.length_take]; rfl)) ?_; (with_reducible refine (peel_Known.calls kj3 a0 _ _ l1 _ _ l2 t286 t287 _ ?side1 ?side2 ?side3 ?side4 A12.out).mono ?_); (case side1 => repeat (first | exact (Kd.V_reads' HO_1.out).2.2 | (with_reducible refine Kd.C_alloc ?_ _) | (with_reducible refine Kd.C_drewN ?_ _) | (with_reducible refine Kd.C_drew ?_))); (case side2 => exact (Kd.V_reads' HO_1.out).2.1); (case side3 => repeat (first | exact (Kd.C_below HR2.out HB.out) | (with_reducible refine Kd.C_alloc ?_ _) | (with_reducible refine Kd.C_drewN ?_ _) | (with_reducible refine Kd.C_drew ?_))); (case side4 => exact HC2.out); rintro e w13 ⟨v288, rfl, ho0, hb⟩; refine ⟨_, rfl, ?_⟩; have n0_ := Aside0.mk (Kd.V_elder' (by (with_reducible repeat (first | apply Kd.V_alloc | apply Kd.V_drewN | apply Kd.V_drew)); exact HO_1.out) (Kd.R_base ho0) hb); have n1_ := Aside0.mk (Kd.R_lower (Kd.R_newM (M := fun k_ => (w.heap.size ≤ k_)) ho0 (below_size (by repeat (first | (with_reducible first | exact HB.out | apply below_alloc | apply pw_below_drewN | apply below_drew1) | exact HB.out))) (fun k_ h_ => h_)) (below_size (by repeat (first | (with_reducible first | exact HB.out | apply below_alloc | apply pw_below_drewN | apply below_drew1) | exact HB.out)))); have n2_ := Aside0.mk (below_step (by repeat (first | (with_reducible first | exact HB.out | apply below_alloc | apply pw_below_drewN | apply below_drew1) | exact HB.out)) hb); clear HO_1; clear HB; have HO_1 := n0_; have HO289 := n1_; have HB := n2_; clear n0_ n1_ n2_; (try clear hb); (try clear hb2); (try clear hk); (try clear hi); (try clear ho0)))
    go_loopg [9] kj3 (fun kq v9 w' => ∃ (x9_2 : Int), v9 = .int .i64 x9_2 ∧ Aside0 (mosaiclaw13_PeelOrder.l0 kq a0 l1 l2 t286 t287 x9_2 = some r) ∧ Aside0 (kq ≤ kj3) ∧ Aside0 (Kd.V (Kd.slice 3 (Kd.int .i64)) 23 w' w.heap.size (fun k_ => (P1_ k_ ∨ w.heap.size ≤ k_) ∧ some k_ ≠ (v288 : Value).ownBlock) (.slice A1 l1.length c1) l1) ∧ Aside0 (Kd.R (Kd.int .i64) 3 w' w.heap.size (fun k_ => (w.heap.size ≤ k_)) v288 t286) ∧ Aside0 (Below w.heap.size w w'))
    case atStart => exact ⟨(0), (by first | rfl | (simp; done) | (simp [*]; done)), H', ⟨Nat.le_refl _⟩, ⟨by (with_reducible repeat (first | apply Kd.V_alloc | apply Kd.V_drewN | apply Kd.V_drew)); exact HO_1.out⟩, ⟨by (with_reducible repeat (first | apply Kd.R_alloc | apply Kd.R_drewN | apply Kd.R_drew)); exact Kd.R_mono HO289.out (fun _ hk => hk.1)⟩, ⟨by repeat (first | (with_reducible first | exact HB.out | apply below_alloc | apply pw_below_drewN | apply below_drew1) | exact HB.out)⟩⟩
    case round =>
     clear H'
     try clear c1
     try clear c2
     try clear p2
     try clear c3
     try clear c6
     try clear c9
     try clear p2
     obtain ⟨x9_2, rfl, HA, HK2, HO_1, HO_7, HB⟩ := hrel
     cases gk with
     | zero => exact absurd HA.out (by simp [mosaiclaw13_PeelOrder.l0])
     | succ k2 =>
      have H := HA.out
      clear HA
      simp only [mosaiclaw13_PeelOrder.l0] at H
      by_cases c14 : x9_2 < (l1.length : Int)
      ·
       rw [if_pos c14] at H
       have c14b0 : decide (x9_2 < (l1.length : Int)) = true := decide_eq_true c14
       clear c14
       have H' := Aside0.mk H
       clear H
       go_wp2
       go_loopg [10, 11, 12] k2 (fun kq v10 v11 v12 w' => ∃ (x10_3 : List (List Int)) (x11_3 : List (List Int)) (x12_3 : Int), v12 = .int .i64 x12_3 ∧ Aside0 (mosaiclaw13_PeelOrder.l1 kq a0 l1 l2 t286 t287 x9_2 x10_3 x11_3 x12_3 = some r) ∧ Aside0 (kq ≤ k2) ∧ Aside0 (Kd.V (Kd.slice 3 (Kd.int .i64)) 23 w' w.heap.size (fun k_ => (P1_ k_ ∨ w.heap.size ≤ k_) ∧ some k_ ≠ (v288 : Value).ownBlock ∧ some k_ ≠ (v10 : Value).ownBlock ∧ some k_ ≠ (v11 : Value).ownBlock) (.slice A1 l1.length c1) l1) ∧ Aside0 (Kd.R (Kd.int .i64) 3 w' w.heap.size (fun k_ => (w.heap.size ≤ k_)) v288 t286) ∧ Aside0 (Kd.N (Kd.slice 3 (Kd.int .i64)) 23 w' w.heap.size (fun k_ => (P1_ k_ ∨ w.heap.size ≤ k_) ∧ some k_ ≠ (v288 : Value).ownBlock ∧ some k_ ≠ (v11 : Value).ownBlock) v10 x10_3) ∧ Aside0 (Kd.N (Kd.slice 3 (Kd.int .i64)) 23 w' w.heap.size (fun k_ => (P1_ k_ ∨ w.heap.size ≤ k_) ∧ some k_ ≠ (v288 : Value).ownBlock ∧ some k_ ≠ (v10 : Value).ownBlock) v11 x11_3) ∧ Aside0 (Below w.heap.size w w'))
       case atStart => exact ⟨(([] : List (List Int))), (([] : List (List Int))), (0), (by first | rfl | (simp; done) | (simp [*]; done)), H', ⟨Nat.le_refl _⟩, ⟨by (with_reducible repeat (first | apply Kd.V_alloc | apply Kd.V_drewN | apply Kd.V_drew)); exact Kd.V_mono HO_1.out (fun _ hk => ⟨hk.1, ⟨hk.2, ⟨(by simp [Value.ownBlock]), (by simp [Value.ownBlock])⟩⟩⟩)⟩, ⟨by (with_reducible repeat (first | apply Kd.R_alloc | apply Kd.R_drewN | apply Kd.R_drew)); exact HO_7.out⟩, ⟨by first | exact Kd.S_nil _ _ _ _ _ | exact Kd.N_nil _ _ _ _ _ | exact Kd.V_nil _ _ _ _ _ | exact Kd.Q_nil _ _ _ _ _ | exact Kd.R_nil _ _ _ _ _⟩, ⟨by first | exact Kd.S_nil _ _ _ _ _ | exact Kd.N_nil _ _ _ _ _ | exact Kd.V_nil _ _ _ _ _ | exact Kd.Q_nil _ _ _ _ _ | exact Kd.R_nil _ _ _ _ _⟩, ⟨by repeat (first | (with_reducible first | exact HB.out | apply below_alloc | apply pw_below_drewN | apply below_drew1) | exact HB.out)⟩⟩
       case round =>
        clear H'
        try clear c1
        try clear c2
        try clear p2
        try clear c3
        try clear c6
        try clear c9
        try clear c14
        try clear c14b0
        try clear p2
        obtain ⟨x10_3, x11_3, x12_3, rfl, HA, HK3, HO_1, HO_7, HO_10, HO_11, HB⟩ := hrel
        cases gk with
        | zero => exact absurd HA.out (by simp [mosaiclaw13_PeelOrder.l1])
        | succ k3 =>
         have H := HA.out
         clear HA
         simp only [mosaiclaw13_PeelOrder.l1] at H
         by_cases c15 : x12_3 < (l1.length : Int)
         ·
          rw [if_pos c15] at H
          have c15b0 : decide (x12_3 < (l1.length : Int)) = true := decide_eq_true c15
          clear c15
          by_cases c16 : (l1.length : Int) = 0
          ·
           rw [if_pos c16] at H
           exact absurd H (by simp)
          ·
           rw [if_neg c16] at H
           have c16b0 : ((l1.length : Int) == 0) = false := beq_eq_false_iff_ne.mpr c16
           have c16b1 : ((l1.length : Int) != 0) = true := bne_iff_ne.mpr c16
           have c16b2 : ¬ (l1 = []) := fun h_ => c16 (by rw [h_]; rfl)
           obtain ⟨ji17, hji17⟩ : ∃ j_ : Int, (Int.tmod (wrap64 (x12_3 + x9_2)) (l1.length : Int)) = j_ := ⟨_, rfl⟩
           replace H : (if 0 ≤ (ji17) then (if (ji17) < (l1.length : Int) then (if x10_3.length < 5864062014805 then (if 0 ≤ (wrap64 ((wrap64 ((l1.length : Int) - 1)) - (ji17))) then (if (wrap64 ((wrap64 ((l1.length : Int) - 1)) - (ji17))) < (l1.length : Int) then (if x11_3.length < 5864062014805 then (mosaiclaw13_PeelOrder.l1 k3 a0 l1 l2 t286 t287 x9_2 (x10_3 ++ [rd_L3 l1 (ji17)]) (x11_3 ++ [rd_L3 l1 (wrap64 ((wrap64 ((l1.length : Int) - 1)) - (ji17)))]) (wrap64 (x12_3 + 1))) else (none)) else (none)) else (none)) else (none)) else (none)) else (none)) = some r := by first | (rw [hji17] at H; exact H) | (simp only [hji17] at H ⊢; exact H)
           by_cases c18 : 0 ≤ (ji17)
           ·
            rw [if_pos c18] at H
            have c18b0 : decide (0 ≤ (ji17)) = true := decide_eq_true c18
            clear c18
            by_cases c19 : (ji17) < (l1.length : Int)
            ·
             rw [if_pos c19] at H
             have c19b0 : decide ((ji17) < (l1.length : Int)) = true := decide_eq_true c19
             clear c19
             by_cases c20 : x10_3.length < 5864062014805
             ·
              rw [if_pos c20] at H
              have LMc20 := Aside0.mk c20
              clear c20
              obtain ⟨y292, hy292⟩ : ∃ y_ : List (List Int), y_ = (x10_3 ++ [rd_L3 l1 (ji17)]) := ⟨_, rfl⟩
              replace H : (if 0 ≤ (wrap64 ((wrap64 ((l1.length : Int) - 1)) - (ji17))) then (if (wrap64 ((wrap64 ((l1.length : Int) - 1)) - (ji17))) < (l1.length : Int) then (if x11_3.length < 5864062014805 then (mosaiclaw13_PeelOrder.l1 k3 a0 l1 l2 t286 t287 x9_2 y292 (x11_3 ++ [rd_L3 l1 (wrap64 ((wrap64 ((l1.length : Int) - 1)) - (ji17)))]) (wrap64 (x12_3 + 1))) else (none)) else (none)) else (none)) = some r := by first | (rw [hy292]; with_reducible exact H) | (have H2_ := (Option.bind_some _ _).symm.trans H; rw [hy292]; with_reducible exact H2_) | (have H2_ := (Option.bind_some _ _).symm.trans H; with_reducible exact H2_) | with_reducible exact H | (rw [hy292]; exact H) | exact H
              have Ny292 := Aside0.mk hy292
              clear hy292
              obtain ⟨ji21, hji21⟩ : ∃ j_ : Int, (wrap64 ((wrap64 ((l1.length : Int) - 1)) - (ji17))) = j_ := ⟨_, rfl⟩
              replace H : (if 0 ≤ (ji21) then (if (ji21) < (l1.length : Int) then (if x11_3.length < 5864062014805 then (mosaiclaw13_PeelOrder.l1 k3 a0 l1 l2 t286 t287 x9_2 y292 (x11_3 ++ [rd_L3 l1 (ji21)]) (wrap64 (x12_3 + 1))) else (none)) else (none)) else (none)) = some r := by first | (rw [hji21] at H; exact H) | (simp only [hji21] at H ⊢; exact H)
              have hji21w : (IntKind.i64.wrap ((wrap64 ((l1.length : Int) - 1)) - (ji17))) = ji21 := (i64_w _).trans hji21
              by_cases c22 : 0 ≤ (ji21)
              ·
               rw [if_pos c22] at H
               have c22b0 : decide (0 ≤ (ji21)) = true := decide_eq_true c22
               clear c22
               by_cases c23 : (ji21) < (l1.length : Int)
               ·
                rw [if_pos c23] at H
                have c23b0 : decide ((ji21) < (l1.length : Int)) = true := decide_eq_true c23
                clear c23
                by_cases c24 : x11_3.length < 5864062014805
                ·
                 rw [if_pos c24] at H
                 have LMc24 := Aside0.mk c24
                 clear c24
                 obtain ⟨y296, hy296⟩ : ∃ y_ : List (List Int), y_ = (x11_3 ++ [rd_L3 l1 (ji21)]) := ⟨_, rfl⟩
                 replace H : (mosaiclaw13_PeelOrder.l1 k3 a0 l1 l2 t286 t287 x9_2 y292 y296 (wrap64 (x12_3 + 1))) = some r := by first | (rw [hy296]; with_reducible exact H) | (have H2_ := (Option.bind_some _ _).symm.trans H; rw [hy296]; with_reducible exact H2_) | (have H2_ := (Option.bind_some _ _).symm.trans H; with_reducible exact H2_) | with_reducible exact H | (rw [hy296]; exact H) | exact H
                 have Ny296 := Aside0.mk hy296
                 clear hy296
                 have H' := Aside0.mk H
                 clear H
                 have p291 : 0 ≤ ((ji17) : Int) := of_decide_eq_true (by first | (with_reducible assumption) | assumption)
                 have q291 : (ji17) < (l1.length : Int) := of_decide_eq_true (by first | (with_reducible assumption) | assumption)
                 obtain ⟨ad291, A291_0, c291_0, e291, hx291_0, hl291_0, hi291_0⟩ := at_L3 (Kd.V_reads' HO_1.out).2.2 (ji17) p291 q291
                 cases e291
                 obtain ⟨ce291, hce291, hMe291, hcc291⟩ := Kd.V_get HO_1.out [] (ji17) p291 (by first | exact q291 | exact of_decide_eq_true (by first | (with_reducible assumption) | assumption) | (have e_ := (Kd.V_reads' HO_1.out).1; omega))
                 obtain ⟨ua291_0, uc291_0, rfl, ul291_0, ge291_0⟩ := Kd.FK_slice_open hMe291
                 have hv291_0 := hcc291 0 _ rfl
                 rw [Nat.add_zero, show ((Kd.slice 3 (Kd.int .i64))).sz = 1 from rfl, Nat.mul_one] at hv291_0
                 replace hv291_0 := Option.some.inj (hv291_0.symm.trans hx291_0)
                 injection hv291_0 with hva_ hvn_ hvc_
                 rw [hva_] at ge291_0
                 rw [hvc_] at ul291_0
                 have HL291_0 := Aside0.mk (show Kd.V (Kd.int .i64) 3 _ w.heap.size _ _ (rd_L3 l1 (ji17)) from Kd.V_mk ul291_0 ge291_0)
                 clear hva_ hvn_ hvc_ ge291_0 ul291_0
                 clear hcc291 hce291
                 have HR291_0 := Aside0.mk hi291_0
                 have HC291_0 := Aside0.mk hl291_0
                 clear hi291_0 hl291_0
                 replace p291 := eq_true p291
                 replace q291 := eq_true q291
                 go_wp2_with (first | ((with_reducible refine gate_builtin (b := .append) (xs := #[.tmp 51, .tmp 61]) rfl ?_); (try (refine gate_guard (by rfl) ?_; dsimp only)); at_builtin; refine Kd.N_append (Kd.slice 3 (Kd.int .i64)) (w0 := w) w.heap.size rfl (.tmp 51) (.tmp 61) 22 23 (.slice none 0 0) 24 rfl Try.underlying22 info23 rfl (by decide) (by omega) u10 x10_3 (rd_L3 l1 (ji17)) [.slice A291_0 (rd_L3 l1 (ji17)).length c291_0] (fun k_ => (P1_ k_ ∨ w.heap.size ≤ k_) ∧ some k_ ≠ (v288 : Value).ownBlock ∧ some k_ ≠ (u11 : Value).ownBlock) (fun k_ => ((fun k_ => (P1_ k_ ∨ w.heap.size ≤ k_) ∧ some k_ ≠ (v288 : Value).ownBlock ∧ some k_ ≠ (u11 : Value).ownBlock)) k_ ∧ some k_ ≠ (u10 : Value).ownBlock) rfl rfl ?aP (fun _ hk => hk) ?aF ?aO ?aB ?aS ?aL ?_; (case aP => exact (Kd.FK_slice_mk (Kd.V_reads' (Kd.V_mono (ok' := (fun k_ => ((fun k_ => (P1_ k_ ∨ w.heap.size ≤ k_) ∧ some k_ ≠ (v288 : Value).ownBlock ∧ some k_ ≠ (u11 : Value).ownBlock)) k_ ∧ some k_ ≠ (u10 : Value).ownBlock)) (HL291_0.out) (fun k_ hk => ⟨⟨hk.1, ⟨hk.2.1, hk.2.2.2⟩⟩, hk.2.2.1⟩))).2.1 (Kd.V_F (Kd.V_mono (ok' := (fun k_ => ((fun k_ => (P1_ k_ ∨ w.heap.size ≤ k_) ∧ some k_ ≠ (v288 : Value).ownBlock ∧ some k_ ≠ (u11 : Value).ownBlock)) k_ ∧ some k_ ≠ (u10 : Value).ownBlock)) (HL291_0.out) (fun k_ hk => ⟨⟨hk.1, ⟨hk.2.1, hk.2.2.2⟩⟩, hk.2.2.1⟩))))); (case aB => exact (by repeat (first | (with_reducible first | exact HB.out | apply below_alloc | apply pw_below_drewN | apply below_drew1) | exact HB.out))); (case aF => exact (fun k_ hk => ⟨(.inr (Nat.le_trans (below_size (by repeat (first | (with_reducible first | exact HB.out | apply below_alloc | apply pw_below_drewN | apply below_drew1) | exact HB.out))) hk)), Kd.fresh' (Kd.R_lt (by (with_reducible repeat (first | apply Kd.R_alloc | apply Kd.R_drewN | apply Kd.R_drew)); exact HO_7.out)) k_ hk, Kd.fresh' (Kd.N_lt (by (with_reducible repeat (first | apply Kd.N_alloc | apply Kd.N_drewN | apply Kd.N_drew)); exact HO_11.out)) k_ hk⟩)); (case aO => exact (by (with_reducible repeat (first | apply Kd.N_alloc | apply Kd.N_drewN | apply Kd.N_drew)); exact HO_10.out)); (case aS => exact (below_size (by repeat (first | (with_reducible first | exact HB.out | apply below_alloc | apply pw_below_drewN | apply below_drew1) | exact HB.out)))); (case aL => have := LMc20.out; omega); intro v293 w25 ho hb hg hat; rw [← Ny292.out] at ho; have n0_ := Aside0.mk (Kd.V_afterv (ok := (fun k_ => (P1_ k_ ∨ w.heap.size ≤ k_) ∧ some k_ ≠ (v288 : Value).ownBlock ∧ some k_ ≠ (u11 : Value).ownBlock)) (by (with_reducible repeat (first | apply Kd.V_alloc | apply Kd.V_drewN | apply Kd.V_drew)); exact Kd.V_mono HO_1.out (fun _ hk => ⟨⟨hk.1, ⟨hk.2.1, hk.2.2.2⟩⟩, hk.2.2.1⟩)) hg hat); have n1_ := Aside0.mk (Kd.R_over' (by (with_reducible repeat (first | apply Kd.R_alloc | apply Kd.R_drewN | apply Kd.R_drew)); exact HO_7.out) (Kd.N_typed (by (with_reducible repeat (first | apply Kd.N_alloc | apply Kd.N_drewN | apply Kd.N_drew)); exact HO_10.out)) (by decide) hg); have n2_ := Aside0.mk (Kd.N_afterv (ok := (fun k_ => (P1_ k_ ∨ w.heap.size ≤ k_) ∧ some k_ ≠ (v288 : Value).ownBlock)) (by (with_reducible repeat (first | apply Kd.N_alloc | apply Kd.N_drewN | apply Kd.N_drew)); exact Kd.N_mono HO_11.out (fun _ hk => ⟨⟨hk.1, hk.2.1⟩, hk.2.2⟩)) hg hat); have n3_ := Aside0.mk (Kd.V_afterv (ok := (fun k_ => (P1_ k_ ∨ w.heap.size ≤ k_) ∧ some k_ ≠ (v288 : Value).ownBlock ∧ some k_ ≠ (u11 : Value).ownBlock)) (by (with_reducible repeat (first | apply Kd.V_alloc | apply Kd.V_drewN | apply Kd.V_drew)); exact Kd.V_mono HL291_0.out (fun _ hk => ⟨⟨hk.1, ⟨hk.2.1, hk.2.2.2⟩⟩, hk.2.2.1⟩)) hg hat); have n4_ := Aside0.mk (hb); have n5_ := Aside0.mk (ho); clear HO_1; clear HO_7; clear HO_11; clear HL291_0; clear HB; clear HO_10; have HO_1 := n0_; have HO_7 := n1_; have HO_11 := n2_; have HL291_0 := n3_; have HB := n4_; have HO294 := n5_; clear n0_ n1_ n2_ n3_ n4_ n5_; clear ho hb hg hat; have p295 : 0 ≤ ((ji21) : Int) := of_decide_eq_true (by first | (with_reducible assumption) | assumption); have q295 : (ji21) < (l1.length : Int) := of_decide_eq_true (by first | (with_reducible assumption) | assumption); obtain ⟨ad295, A295_0, c295_0, e295, hx295_0, hl295_0, hi295_0⟩ := at_L3 (Kd.V_reads' HO_1.out).2.2 (ji21) p295 q295; obtain rfl : ad291 = ad295 := (by injection e295); obtain ⟨ce295, hce295, hMe295, hcc295⟩ := Kd.V_get HO_1.out [] (ji21) p295 (by first | exact q295 | exact of_decide_eq_true (by first | (with_reducible assumption) | assumption) | (have e_ := (Kd.V_reads' HO_1.out).1; omega)); obtain ⟨ua295_0, uc295_0, rfl, ul295_0, ge295_0⟩ := Kd.FK_slice_open hMe295; have hv295_0 := hcc295 0 _ rfl; rw [Nat.add_zero, show ((Kd.slice 3 (Kd.int .i64))).sz = 1 from rfl, Nat.mul_one] at hv295_0; replace hv295_0 := Option.some.inj (hv295_0.symm.trans hx295_0); injection hv295_0 with hva_ hvn_ hvc_; rw [hva_] at ge295_0; rw [hvc_] at ul295_0; have HL295_0 := Aside0.mk (show Kd.V (Kd.int .i64) 3 _ w.heap.size _ _ (rd_L3 l1 (ji21)) from Kd.V_mk ul295_0 ge295_0); clear hva_ hvn_ hvc_ ge295_0 ul295_0; clear hcc295 hce295; have HR295_0 := Aside0.mk hi295_0; have HC295_0 := Aside0.mk hl295_0; clear hi295_0 hl295_0; replace p295 := eq_true p295; replace q295 := eq_true q295) | ((with_reducible refine gate_builtin (b := .append) (xs := #[.tmp 63, .tmp 77]) rfl ?_); (try (refine gate_guard (by rfl) ?_; dsimp only)); at_builtin; refine Kd.N_append (Kd.slice 3 (Kd.int .i64)) (w0 := w) w.heap.size rfl (.tmp 63) (.tmp 77) 22 23 (.slice none 0 0) 24 rfl Try.underlying22 info23 rfl (by decide) (by omega) u11 x11_3 (rd_L3 l1 (ji21)) [.slice A295_0 (rd_L3 l1 (ji21)).length c295_0] (fun k_ => (P1_ k_ ∨ w.heap.size ≤ k_) ∧ some k_ ≠ (v288 : Value).ownBlock ∧ some k_ ≠ (v293 : Value).ownBlock) (fun k_ => ((fun k_ => (P1_ k_ ∨ w.heap.size ≤ k_) ∧ some k_ ≠ (v288 : Value).ownBlock ∧ some k_ ≠ (v293 : Value).ownBlock)) k_ ∧ some k_ ≠ (u11 : Value).ownBlock) rfl rfl ?aP (fun _ hk => hk) ?aF ?aO ?aB ?aS ?aL ?_; (case aP => exact (Kd.FK_slice_mk (Kd.V_reads' (Kd.V_mono (ok' := (fun k_ => ((fun k_ => (P1_ k_ ∨ w.heap.size ≤ k_) ∧ some k_ ≠ (v288 : Value).ownBlock ∧ some k_ ≠ (v293 : Value).ownBlock)) k_ ∧ some k_ ≠ (u11 : Value).ownBlock)) (HL295_0.out) (fun k_ hk => ⟨⟨hk.1.1, ⟨hk.1.2.1, hk.2⟩⟩, hk.1.2.2⟩))).2.1 (Kd.V_F (Kd.V_mono (ok' := (fun k_ => ((fun k_ => (P1_ k_ ∨ w.heap.size ≤ k_) ∧ some k_ ≠ (v288 : Value).ownBlock ∧ some k_ ≠ (v293 : Value).ownBlock)) k_ ∧ some k_ ≠ (u11 : Value).ownBlock)) (HL295_0.out) (fun k_ hk => ⟨⟨hk.1.1, ⟨hk.1.2.1, hk.2⟩⟩, hk.1.2.2⟩))))); (case aB => exact (by repeat (first | (with_reducible first | exact HB.out | apply below_alloc | apply pw_below_drewN | apply below_drew1) | exact HB.out))); (case aF => exact (fun k_ hk => ⟨(.inr (Nat.le_trans (below_size (by repeat (first | (with_reducible first | exact HB.out | apply below_alloc | apply pw_below_drewN | apply below_drew1) | exact HB.out))) hk)), Kd.fresh' (Kd.R_lt (by (with_reducible repeat (first | apply Kd.R_alloc | apply Kd.R_drewN | apply Kd.R_drew)); exact HO_7.out)) k_ hk, Kd.fresh' (Kd.N_lt (by (with_reducible repeat (first | apply Kd.N_alloc | apply Kd.N_drewN | apply Kd.N_drew)); exact HO294.out)) k_ hk⟩)); (case aO => exact (by (with_reducible repeat (first | apply Kd.N_alloc | apply Kd.N_drewN | apply Kd.N_drew)); exact Kd.N_mono HO_11.out (fun _ hk => ⟨hk.1.1, ⟨hk.1.2, hk.2⟩⟩))); (case aS => exact (below_size (by repeat (first | (with_reducible first | exact HB.out | apply below_alloc | apply pw_below_drewN | apply below_drew1) | exact HB.out)))); (case aL => have := LMc24.out; omega); intro v297 w26 ho hb hg hat; rw [← Ny296.out] at ho; have n0_ := Aside0.mk (Kd.V_afterv (ok := (fun k_ => (P1_ k_ ∨ w.heap.size ≤ k_) ∧ some k_ ≠ (v288 : Value).ownBlock ∧ some k_ ≠ (v293 : Value).ownBlock)) (by (with_reducible repeat (first | apply Kd.V_alloc | apply Kd.V_drewN | apply Kd.V_drew)); exact Kd.V_mono HO_1.out (fun _ hk => ⟨⟨hk.1.1, ⟨hk.1.2.1, hk.2⟩⟩, hk.1.2.2⟩)) hg hat); have n1_ := Aside0.mk (Kd.R_over' (by (with_reducible repeat (first | apply Kd.R_alloc | apply Kd.R_drewN | apply Kd.R_drew)); exact HO_7.out) (Kd.N_typed (by (with_reducible repeat (first | apply Kd.N_alloc | apply Kd.N_drewN | apply Kd.N_drew)); exact HO_11.out)) (by decide) hg); have n2_ := Aside0.mk (Kd.V_afterv (ok := (fun k_ => (P1_ k_ ∨ w.heap.size ≤ k_) ∧ some k_ ≠ (v288 : Value).ownBlock ∧ some k_ ≠ (v293 : Value).ownBlock)) (by (with_reducible repeat (first | apply Kd.V_alloc | apply Kd.V_drewN | apply Kd.V_drew)); exact Kd.V_mono HL291_0.out (fun _ hk => ⟨⟨hk.1.1, ⟨hk.1.2.1, hk.2⟩⟩, hk.1.2.2⟩)) hg hat); have n3_ := Aside0.mk (Kd.N_afterv (ok := (fun k_ => (P1_ k_ ∨ w.heap.size ≤ k_) ∧ some k_ ≠ (v288 : Value).ownBlock)) (by (with_reducible repeat (first | apply Kd.N_alloc | apply Kd.N_drewN | apply Kd.N_drew)); exact Kd.N_mono HO294.out (fun _ hk => ⟨⟨hk.1, hk.2.1⟩, hk.2.2⟩)) hg hat); have n4_ := Aside0.mk (Kd.V_afterv (ok := (fun k_ => (P1_ k_ ∨ w.heap.size ≤ k_) ∧ some k_ ≠ (v288 : Value).ownBlock ∧ some k_ ≠ (v293 : Value).ownBlock)) (by (with_reducible repeat (first | apply Kd.V_alloc | apply Kd.V_drewN | apply Kd.V_drew)); exact Kd.V_mono HL295_0.out (fun _ hk => ⟨⟨hk.1.1, ⟨hk.1.2.1, hk.2⟩⟩, hk.1.2.2⟩)) hg hat); have n5_ := Aside0.mk (hb); have n6_ := Aside0.mk (ho); clear HO_1; clear HO_7; clear HL291_0; clear HO294; clear HL295_0; clear HB; clear HO_11; have HO_1 := n0_; have HO_7 := n1_; have HL291_0 := n2_; have HO294 := n3_; have HL295_0 := n4_; have HB := n5_; have HO298 := n6_; clear n0_ n1_ n2_ n3_ n4_ n5_ n6_; clear ho hb hg hat))
                 go_roundg k3
                 case measure => have := HJ3.out; have := HK2.out; have := HK3.out; omega
                 case rel => exact ⟨(y292), (y296), (wrap64 (x12_3 + 1)), (by first | rfl | (simp; done) | (simp [*]; done)), H', ⟨by have := HJ3.out; have := HK2.out; have := HK3.out; omega⟩, ⟨by (with_reducible repeat (first | apply Kd.V_alloc | apply Kd.V_drewN | apply Kd.V_drew)); exact Kd.V_mono HO_1.out (fun _ hk => ⟨hk.1.1, ⟨hk.1.2.1, ⟨hk.1.2.2, hk.2⟩⟩⟩)⟩, ⟨by (with_reducible repeat (first | apply Kd.R_alloc | apply Kd.R_drewN | apply Kd.R_drew)); exact HO_7.out⟩, ⟨by (with_reducible repeat (first | apply Kd.N_alloc | apply Kd.N_drewN | apply Kd.N_drew)); exact Kd.N_mono HO294.out (fun _ hk => ⟨hk.1.1, ⟨hk.1.2, hk.2⟩⟩)⟩, ⟨by (with_reducible repeat (first | apply Kd.N_alloc | apply Kd.N_drewN | apply Kd.N_drew)); exact HO298.out⟩, ⟨by repeat (first | (with_reducible first | exact HB.out | apply below_alloc | apply pw_below_drewN | apply below_drew1) | exact HB.out)⟩⟩
                ·
                 rw [if_neg c24] at H
                 exact absurd H (by simp)
               ·
                rw [if_neg c23] at H
                exact absurd H (by simp)
              ·
               rw [if_neg c22] at H
               exact absurd H (by simp)
             ·
              rw [if_neg c20] at H
              exact absurd H (by simp)
            ·
             rw [if_neg c19] at H
             exact absurd H (by simp)
           ·
            rw [if_neg c18] at H
            exact absurd H (by simp)
         ·
          rw [if_neg c15] at H
          have c15b0 : decide (x12_3 < (l1.length : Int)) = false := decide_eq_false c15
          clear c15
          replace H := Option.bind_eq_some_iff.mp H
          obtain ⟨⟨t299, t300⟩, A270, H⟩ := H
          replace H : ((peel_Known.f k3 a0 x11_3 l2).bind fun bt303 => ((mosaicref04_Same.f k3 t286 t299).bind fun t307 => (if t307 = true then ((mosaicref04_Same.f k3 t286 bt303.1).bind fun t308 => (if t308 = true then (if t287 = t300 then (if t287 = bt303.2 then (mosaiclaw13_PeelOrder.l0 k3 a0 l1 l2 t286 t287 (wrap64 ((wrap64 (x9_2 + 1)) + (wrap64 ((l1.length : Int) / 4))))) else (some false)) else (some false)) else (some false))) else (some false)))) = some r := H
          have A27 := Aside0.mk A270
          clear A270
          replace H := Option.bind_eq_some_iff.mp H
          obtain ⟨⟨t303, t304⟩, A280, H⟩ := H
          replace H : ((mosaicref04_Same.f k3 t286 t299).bind fun t307 => (if t307 = true then ((mosaicref04_Same.f k3 t286 t303).bind fun t308 => (if t308 = true then (if t287 = t300 then (if t287 = t304 then (mosaiclaw13_PeelOrder.l0 k3 a0 l1 l2 t286 t287 (wrap64 ((wrap64 (x9_2 + 1)) + (wrap64 ((l1.length : Int) / 4))))) else (some false)) else (some false)) else (some false))) else (some false))) = some r := H
          have A28 := Aside0.mk A280
          clear A280
          replace H := Option.bind_eq_some_iff.mp H
          obtain ⟨t307, A290, H⟩ := H
          replace H : (if t307 = true then ((mosaicref04_Same.f k3 t286 t303).bind fun t308 => (if t308 = true then (if t287 = t300 then (if t287 = t304 then (mosaiclaw13_PeelOrder.l0 k3 a0 l1 l2 t286 t287 (wrap64 ((wrap64 (x9_2 + 1)) + (wrap64 ((l1.length : Int) / 4))))) else (some false)) else (some false)) else (some false))) else (some false)) = some r := H
          have A29 := Aside0.mk A290
          clear A290
          by_cases c30 : t307 = true
          ·
           subst c30
           have H1 : ((mosaicref04_Same.f k3 t286 t303).bind fun t308 => (if t308 = true then (if t287 = t300 then (if t287 = t304 then (mosaiclaw13_PeelOrder.l0 k3 a0 l1 l2 t286 t287 (wrap64 ((wrap64 (x9_2 + 1)) + (wrap64 ((l1.length : Int) / 4))))) else (some false)) else (some false)) else (some false))) = some r := by rw [if_pos rfl] at H; exact H
           clear H
           have H := H1
           clear H1
           replace H := Option.bind_eq_some_iff.mp H
           obtain ⟨t308, A310, H⟩ := H
           replace H : (if t308 = true then (if t287 = t300 then (if t287 = t304 then (mosaiclaw13_PeelOrder.l0 k3 a0 l1 l2 t286 t287 (wrap64 ((wrap64 (x9_2 + 1)) + (wrap64 ((l1.length : Int) / 4))))) else (some false)) else (some false)) else (some false)) = some r := H
           have A31 := Aside0.mk A310
           clear A310
           by_cases c32 : t308 = true
           ·
            subst c32
            have H1 : (if t287 = t300 then (if t287 = t304 then (mosaiclaw13_PeelOrder.l0 k3 a0 l1 l2 t286 t287 (wrap64 ((wrap64 (x9_2 + 1)) + (wrap64 ((l1.length : Int) / 4))))) else (some false)) else (some false)) = some r := by rw [if_pos rfl] at H; exact H
            clear H
            have H := H1
            clear H1
            by_cases c33 : t287 = t300
            ·
             rw [if_pos c33] at H
             have c33b0 : (t287 == t300) = true := beq_iff_eq.mpr c33
             have c33b1 : (t287 != t300) = false := bne_eq_false_iff_eq.mpr c33
             clear c33
             by_cases c34 : t287 = t304
             ·
              rw [if_pos c34] at H
              have c34b0 : (t287 == t304) = true := beq_iff_eq.mpr c34
              have c34b1 : (t287 != t304) = false := bne_eq_false_iff_eq.mpr c34
              clear c34
              have H' := Aside0.mk H
              clear H
              obtain ⟨Ao35, co35, eo35⟩ := Kd.N_slice HO_10.out
              subst eo35
              go_wp2_with (first | ((with_reducible refine gate_callee (f := 19) rfl ?_); refine goesL_ (some 83) rfl rfl Try.func19 (by kernel_rfl) rfl #[.int .i64 a0, .slice Ao35 x10_3.length co35, .slice A2 l2.length c2] rfl (by (try simp only [List.map_toArray, List.map_cons, List.map_nil]); first | done | rfl | (simp only [List.length_drop, List.length_take]; rfl)) ?_; (with_reducible refine (peel_Known.calls k3 a0 _ _ x10_3 _ _ l2 t299 t300 _ ?side1 ?side2 ?side3 ?side4 A27.out).mono ?_); (case side1 => repeat (first | exact (Kd.N_reads' HO_10.out).2.2 | (with_reducible refine Kd.C_alloc ?_ _) | (with_reducible refine Kd.C_drewN ?_ _) | (with_reducible refine Kd.C_drew ?_))); (case side2 => exact (Kd.N_reads' HO_10.out).2.1); (case side3 => repeat (first | exact (Kd.C_below HR2.out HB.out) | (with_reducible refine Kd.C_alloc ?_ _) | (with_reducible refine Kd.C_drewN ?_ _) | (with_reducible refine Kd.C_drew ?_))); (case side4 => exact HC2.out); rintro e w36 ⟨v301, rfl, ho0, hb⟩; refine ⟨_, rfl, ?_⟩; have n0_ := Aside0.mk (Kd.V_elder' (by (with_reducible repeat (first | apply Kd.V_alloc | apply Kd.V_drewN | apply Kd.V_drew)); exact HO_1.out) (Kd.R_base ho0) hb); have n1_ := Aside0.mk (Kd.R_elder' (by (with_reducible repeat (first | apply Kd.R_alloc | apply Kd.R_drewN | apply Kd.R_drew)); exact HO_7.out) (Kd.R_base ho0) hb); have n2_ := Aside0.mk (Kd.N_elder' (by (with_reducible repeat (first | apply Kd.N_alloc | apply Kd.N_drewN | apply Kd.N_drew)); exact HO_10.out) (Kd.R_base ho0) hb); have n3_ := Aside0.mk (Kd.N_elder' (by (with_reducible repeat (first | apply Kd.N_alloc | apply Kd.N_drewN | apply Kd.N_drew)); exact HO_11.out) (Kd.R_base ho0) hb); have n4_ := Aside0.mk (Kd.R_lower (Kd.R_new' (Kd.R_newM (M := fun k_ => (w.heap.size ≤ k_)) ho0 (below_size (by repeat (first | (with_reducible first | exact HB.out | apply below_alloc | apply pw_below_drewN | apply below_drew1) | exact HB.out))) (fun k_ h_ => h_)) (Kd.R_lt (by (with_reducible repeat (first | apply Kd.R_alloc | apply Kd.R_drewN | apply Kd.R_drew)); exact HO_7.out))) (below_size (by repeat (first | (with_reducible first | exact HB.out | apply below_alloc | apply pw_below_drewN | apply below_drew1) | exact HB.out)))); have n5_ := Aside0.mk (below_step (by repeat (first | (with_reducible first | exact HB.out | apply below_alloc | apply pw_below_drewN | apply below_drew1) | exact HB.out)) hb); clear HO_1; clear HO_7; clear HO_10; clear HO_11; clear HB; have HO_1 := n0_; have HO_7 := n1_; have HO_10 := n2_; have HO_11 := n3_; have HO302 := n4_; have HB := n5_; clear n0_ n1_ n2_ n3_ n4_ n5_; (try clear hb); (try clear hb2); (try clear hk); (try clear hi); (try clear ho0); obtain ⟨Ao37, co37, eo37⟩ := Kd.N_slice HO_11.out; subst eo37) | ((with_reducible refine gate_callee (f := 19) rfl ?_); refine goesL_ (some 90) rfl rfl Try.func19 (by kernel_rfl) rfl #[.int .i64 a0, .slice Ao37 x11_3.length co37, .slice A2 l2.length c2] rfl (by (try simp only [List.map_toArray, List.map_cons, List.map_nil]); first | done | rfl | (simp only [List.length_drop, List.length_take]; rfl)) ?_; (with_reducible refine (peel_Known.calls k3 a0 _ _ x11_3 _ _ l2 t303 t304 _ ?side1 ?side2 ?side3 ?side4 A28.out).mono ?_); (case side1 => repeat (first | exact (Kd.N_reads' HO_11.out).2.2 | (with_reducible refine Kd.C_alloc ?_ _) | (with_reducible refine Kd.C_drewN ?_ _) | (with_reducible refine Kd.C_drew ?_))); (case side2 => exact (Kd.N_reads' HO_11.out).2.1); (case side3 => repeat (first | exact (Kd.C_below HR2.out HB.out) | (with_reducible refine Kd.C_alloc ?_ _) | (with_reducible refine Kd.C_drewN ?_ _) | (with_reducible refine Kd.C_drew ?_))); (case side4 => exact HC2.out); rintro e w38 ⟨v305, rfl, ho0, hb⟩; refine ⟨_, rfl, ?_⟩; have n0_ := Aside0.mk (Kd.V_elder' (by (with_reducible repeat (first | apply Kd.V_alloc | apply Kd.V_drewN | apply Kd.V_drew)); exact HO_1.out) (Kd.R_base ho0) hb); have n1_ := Aside0.mk (Kd.R_elder' (by (with_reducible repeat (first | apply Kd.R_alloc | apply Kd.R_drewN | apply Kd.R_drew)); exact HO_7.out) (Kd.R_base ho0) hb); have n2_ := Aside0.mk (Kd.N_elder' (by (with_reducible repeat (first | apply Kd.N_alloc | apply Kd.N_drewN | apply Kd.N_drew)); exact HO_10.out) (Kd.R_base ho0) hb); have n3_ := Aside0.mk (Kd.N_elder' (by (with_reducible repeat (first | apply Kd.N_alloc | apply Kd.N_drewN | apply Kd.N_drew)); exact HO_11.out) (Kd.R_base ho0) hb); have n4_ := Aside0.mk (Kd.R_elder' (by (with_reducible repeat (first | apply Kd.R_alloc | apply Kd.R_drewN | apply Kd.R_drew)); exact HO302.out) (Kd.R_base ho0) hb); have n5_ := Aside0.mk (Kd.R_lower (Kd.R_new' (Kd.R_new' (Kd.R_newM (M := fun k_ => (w.heap.size ≤ k_)) ho0 (below_size (by repeat (first | (with_reducible first | exact HB.out | apply below_alloc | apply pw_below_drewN | apply below_drew1) | exact HB.out))) (fun k_ h_ => h_)) (Kd.R_lt (by (with_reducible repeat (first | apply Kd.R_alloc | apply Kd.R_drewN | apply Kd.R_drew)); exact HO_7.out))) (Kd.R_lt (by (with_reducible repeat (first | apply Kd.R_alloc | apply Kd.R_drewN | apply Kd.R_drew)); exact HO302.out))) (below_size (by repeat (first | (with_reducible first | exact HB.out | apply below_alloc | apply pw_below_drewN | apply below_drew1) | exact HB.out)))); have n6_ := Aside0.mk (below_step (by repeat (first | (with_reducible first | exact HB.out | apply below_alloc | apply pw_below_drewN | apply below_drew1) | exact HB.out)) hb); clear HO_1; clear HO_7; clear HO_10; clear HO_11; clear HO302; clear HB; have HO_1 := n0_; have HO_7 := n1_; have HO_10 := n2_; have HO_11 := n3_; have HO302 := n4_; have HO306 := n5_; have HB := n6_; clear n0_ n1_ n2_ n3_ n4_ n5_ n6_; (try clear hb); (try clear hb2); (try clear hk); (try clear hi); (try clear ho0); obtain ⟨Ao39, co39, eo39⟩ := Kd.R_slice HO_7.out; subst eo39; obtain ⟨Ao40, co40, eo40⟩ := Kd.R_slice HO302.out; subst eo40) | ((with_reducible refine gate_callee (f := 20) rfl ?_); refine goesL_ (some 95) rfl rfl Try.func20 (by kernel_rfl) rfl #[.slice Ao39 t286.length co39, .slice Ao40 t299.length co40] rfl (by (try simp only [List.map_toArray, List.map_cons, List.map_nil]); first | done | rfl | (simp only [List.length_drop, List.length_take]; rfl)) ?_; (with_reducible refine (mosaicref04_Same.calls k3 _ _ t286 _ _ t299 true _ ?side1 ?side2 ?side3 ?side4 A29.out).mono ?_); (case side1 => repeat (first | exact (Kd.R_reads' HO_7.out).2.2 | (with_reducible refine Kd.C_alloc ?_ _) | (with_reducible refine Kd.C_drewN ?_ _) | (with_reducible refine Kd.C_drew ?_))); (case side2 => exact (Kd.R_reads' HO_7.out).2.1); (case side3 => repeat (first | exact (Kd.R_reads' HO302.out).2.2 | (with_reducible refine Kd.C_alloc ?_ _) | (with_reducible refine Kd.C_drewN ?_ _) | (with_reducible refine Kd.C_drew ?_))); (case side4 => exact (Kd.R_reads' HO302.out).2.1); rintro e w' ⟨rfl, ⟨nd, rfl⟩⟩; refine ⟨_, rfl, ?_⟩; obtain ⟨Ao41, co41, eo41⟩ := Kd.R_slice HO306.out; subst eo41) | (go_at_call 20; (with_reducible refine (mosaicref04_Same.calls k3 _ _ t286 _ _ t303 true _ ?side1 ?side2 ?side3 ?side4 A31.out).mono ?_); (case side1 => repeat (first | exact (Kd.R_reads' HO_7.out).2.2 | (with_reducible refine Kd.C_alloc ?_ _) | (with_reducible refine Kd.C_drewN ?_ _) | (with_reducible refine Kd.C_drew ?_))); (case side2 => exact (Kd.R_reads' HO_7.out).2.1); (case side3 => repeat (first | exact (Kd.R_reads' HO306.out).2.2 | (with_reducible refine Kd.C_alloc ?_ _) | (with_reducible refine Kd.C_drewN ?_ _) | (with_reducible refine Kd.C_drew ?_))); (case side4 => exact (Kd.R_reads' HO306.out).2.1); rintro e w' ⟨rfl, ⟨nd, rfl⟩⟩))
              go_roundg k3
              case measure => have := HJ3.out; have := HK2.out; have := HK3.out; omega
              case rel => exact ⟨(wrap64 ((wrap64 (x9_2 + 1)) + (wrap64 ((l1.length : Int) / 4)))), (by first | rfl | (simp; done) | (simp [*]; done)), H', ⟨by have := HJ3.out; have := HK2.out; have := HK3.out; omega⟩, ⟨by (with_reducible repeat (first | apply Kd.V_alloc | apply Kd.V_drewN | apply Kd.V_drew)); exact Kd.V_mono HO_1.out (fun _ hk => ⟨hk.1.1.1, hk.1.1.2.1⟩)⟩, ⟨by (with_reducible repeat (first | apply Kd.R_alloc | apply Kd.R_drewN | apply Kd.R_drew)); exact Kd.R_mono HO_7.out (fun _ hk => hk.1.1)⟩, ⟨by repeat (first | (with_reducible first | exact HB.out | apply below_alloc | apply pw_below_drewN | apply below_drew1) | exact HB.out)⟩⟩
             ·
              rw [if_neg c34] at H
              have c34b0 : (t287 == t304) = false := beq_eq_false_iff_ne.mpr c34
              have c34b1 : (t287 != t304) = true := bne_iff_ne.mpr c34
              obtain rfl := Option.some.inj H
              obtain ⟨Ao42, co42, eo42⟩ := Kd.N_slice HO_10.out
              subst eo42
              go_wp2_with (first | ((with_reducible refine gate_callee (f := 19) rfl ?_); refine goesL_ (some 83) rfl rfl Try.func19 (by kernel_rfl) rfl #[.int .i64 a0, .slice Ao42 x10_3.length co42, .slice A2 l2.length c2] rfl (by (try simp only [List.map_toArray, List.map_cons, List.map_nil]); first | done | rfl | (simp only [List.length_drop, List.length_take]; rfl)) ?_; (with_reducible refine (peel_Known.calls k3 a0 _ _ x10_3 _ _ l2 t299 t300 _ ?side1 ?side2 ?side3 ?side4 A27.out).mono ?_); (case side1 => repeat (first | exact (Kd.N_reads' HO_10.out).2.2 | (with_reducible refine Kd.C_alloc ?_ _) | (with_reducible refine Kd.C_drewN ?_ _) | (with_reducible refine Kd.C_drew ?_))); (case side2 => exact (Kd.N_reads' HO_10.out).2.1); (case side3 => repeat (first | exact (Kd.C_below HR2.out HB.out) | (with_reducible refine Kd.C_alloc ?_ _) | (with_reducible refine Kd.C_drewN ?_ _) | (with_reducible refine Kd.C_drew ?_))); (case side4 => exact HC2.out); rintro e w43 ⟨v301, rfl, ho0, hb⟩; refine ⟨_, rfl, ?_⟩; have n0_ := Aside0.mk (Kd.V_elder' (by (with_reducible repeat (first | apply Kd.V_alloc | apply Kd.V_drewN | apply Kd.V_drew)); exact HO_1.out) (Kd.R_base ho0) hb); have n1_ := Aside0.mk (Kd.R_elder' (by (with_reducible repeat (first | apply Kd.R_alloc | apply Kd.R_drewN | apply Kd.R_drew)); exact HO_7.out) (Kd.R_base ho0) hb); have n2_ := Aside0.mk (Kd.N_elder' (by (with_reducible repeat (first | apply Kd.N_alloc | apply Kd.N_drewN | apply Kd.N_drew)); exact HO_10.out) (Kd.R_base ho0) hb); have n3_ := Aside0.mk (Kd.N_elder' (by (with_reducible repeat (first | apply Kd.N_alloc | apply Kd.N_drewN | apply Kd.N_drew)); exact HO_11.out) (Kd.R_base ho0) hb); have n4_ := Aside0.mk (Kd.R_lower (Kd.R_new' (Kd.R_newM (M := fun k_ => (w.heap.size ≤ k_)) ho0 (below_size (by repeat (first | (with_reducible first | exact HB.out | apply below_alloc | apply pw_below_drewN | apply below_drew1) | exact HB.out))) (fun k_ h_ => h_)) (Kd.R_lt (by (with_reducible repeat (first | apply Kd.R_alloc | apply Kd.R_drewN | apply Kd.R_drew)); exact HO_7.out))) (below_size (by repeat (first | (with_reducible first | exact HB.out | apply below_alloc | apply pw_below_drewN | apply below_drew1) | exact HB.out)))); have n5_ := Aside0.mk (below_step (by repeat (first | (with_reducible first | exact HB.out | apply below_alloc | apply pw_below_drewN | apply below_drew1) | exact HB.out)) hb); clear HO_1; clear HO_7; clear HO_10; clear HO_11; clear HB; have HO_1 := n0_; have HO_7 := n1_; have HO_10 := n2_; have HO_11 := n3_; have HO302 := n4_; have HB := n5_; clear n0_ n1_ n2_ n3_ n4_ n5_; (try clear hb); (try clear hb2); (try clear hk); (try clear hi); (try clear ho0); obtain ⟨Ao44, co44, eo44⟩ := Kd.N_slice HO_11.out; subst eo44) | ((with_reducible refine gate_callee (f := 19) rfl ?_); refine goesL_ (some 90) rfl rfl Try.func19 (by kernel_rfl) rfl #[.int .i64 a0, .slice Ao44 x11_3.length co44, .slice A2 l2.length c2] rfl (by (try simp only [List.map_toArray, List.map_cons, List.map_nil]); first | done | rfl | (simp only [List.length_drop, List.length_take]; rfl)) ?_; (with_reducible refine (peel_Known.calls k3 a0 _ _ x11_3 _ _ l2 t303 t304 _ ?side1 ?side2 ?side3 ?side4 A28.out).mono ?_); (case side1 => repeat (first | exact (Kd.N_reads' HO_11.out).2.2 | (with_reducible refine Kd.C_alloc ?_ _) | (with_reducible refine Kd.C_drewN ?_ _) | (with_reducible refine Kd.C_drew ?_))); (case side2 => exact (Kd.N_reads' HO_11.out).2.1); (case side3 => repeat (first | exact (Kd.C_below HR2.out HB.out) | (with_reducible refine Kd.C_alloc ?_ _) | (with_reducible refine Kd.C_drewN ?_ _) | (with_reducible refine Kd.C_drew ?_))); (case side4 => exact HC2.out); rintro e w45 ⟨v305, rfl, ho0, hb⟩; refine ⟨_, rfl, ?_⟩; have n0_ := Aside0.mk (Kd.V_elder' (by (with_reducible repeat (first | apply Kd.V_alloc | apply Kd.V_drewN | apply Kd.V_drew)); exact HO_1.out) (Kd.R_base ho0) hb); have n1_ := Aside0.mk (Kd.R_elder' (by (with_reducible repeat (first | apply Kd.R_alloc | apply Kd.R_drewN | apply Kd.R_drew)); exact HO_7.out) (Kd.R_base ho0) hb); have n2_ := Aside0.mk (Kd.N_elder' (by (with_reducible repeat (first | apply Kd.N_alloc | apply Kd.N_drewN | apply Kd.N_drew)); exact HO_10.out) (Kd.R_base ho0) hb); have n3_ := Aside0.mk (Kd.N_elder' (by (with_reducible repeat (first | apply Kd.N_alloc | apply Kd.N_drewN | apply Kd.N_drew)); exact HO_11.out) (Kd.R_base ho0) hb); have n4_ := Aside0.mk (Kd.R_elder' (by (with_reducible repeat (first | apply Kd.R_alloc | apply Kd.R_drewN | apply Kd.R_drew)); exact HO302.out) (Kd.R_base ho0) hb); have n5_ := Aside0.mk (Kd.R_lower (Kd.R_new' (Kd.R_new' (Kd.R_newM (M := fun k_ => (w.heap.size ≤ k_)) ho0 (below_size (by repeat (first | (with_reducible first | exact HB.out | apply below_alloc | apply pw_below_drewN | apply below_drew1) | exact HB.out))) (fun k_ h_ => h_)) (Kd.R_lt (by (with_reducible repeat (first | apply Kd.R_alloc | apply Kd.R_drewN | apply Kd.R_drew)); exact HO_7.out))) (Kd.R_lt (by (with_reducible repeat (first | apply Kd.R_alloc | apply Kd.R_drewN | apply Kd.R_drew)); exact HO302.out))) (below_size (by repeat (first | (with_reducible first | exact HB.out | apply below_alloc | apply pw_below_drewN | apply below_drew1) | exact HB.out)))); have n6_ := Aside0.mk (below_step (by repeat (first | (with_reducible first | exact HB.out | apply below_alloc | apply pw_below_drewN | apply below_drew1) | exact HB.out)) hb); clear HO_1; clear HO_7; clear HO_10; clear HO_11; clear HO302; clear HB; have HO_1 := n0_; have HO_7 := n1_; have HO_10 := n2_; have HO_11 := n3_; have HO302 := n4_; have HO306 := n5_; have HB := n6_; clear n0_ n1_ n2_ n3_ n4_ n5_ n6_; (try clear hb); (try clear hb2); (try clear hk); (try clear hi); (try clear ho0); obtain ⟨Ao46, co46, eo46⟩ := Kd.R_slice HO_7.out; subst eo46; obtain ⟨Ao47, co47, eo47⟩ := Kd.R_slice HO302.out; subst eo47) | ((with_reducible refine gate_callee (f := 20) rfl ?_); refine goesL_ (some 95) rfl rfl Try.func20 (by kernel_rfl) rfl #[.slice Ao46 t286.length co46, .slice Ao47 t299.length co47] rfl (by (try simp only [List.map_toArray, List.map_cons, List.map_nil]); first | done | rfl | (simp only [List.length_drop, List.length_take]; rfl)) ?_; (with_reducible refine (mosaicref04_Same.calls k3 _ _ t286 _ _ t299 true _ ?side1 ?side2 ?side3 ?side4 A29.out).mono ?_); (case side1 => repeat (first | exact (Kd.R_reads' HO_7.out).2.2 | (with_reducible refine Kd.C_alloc ?_ _) | (with_reducible refine Kd.C_drewN ?_ _) | (with_reducible refine Kd.C_drew ?_))); (case side2 => exact (Kd.R_reads' HO_7.out).2.1); (case side3 => repeat (first | exact (Kd.R_reads' HO302.out).2.2 | (with_reducible refine Kd.C_alloc ?_ _) | (with_reducible refine Kd.C_drewN ?_ _) | (with_reducible refine Kd.C_drew ?_))); (case side4 => exact (Kd.R_reads' HO302.out).2.1); rintro e w' ⟨rfl, ⟨nd, rfl⟩⟩; refine ⟨_, rfl, ?_⟩; obtain ⟨Ao48, co48, eo48⟩ := Kd.R_slice HO306.out; subst eo48) | (go_at_call 20; (with_reducible refine (mosaicref04_Same.calls k3 _ _ t286 _ _ t303 true _ ?side1 ?side2 ?side3 ?side4 A31.out).mono ?_); (case side1 => repeat (first | exact (Kd.R_reads' HO_7.out).2.2 | (with_reducible refine Kd.C_alloc ?_ _) | (with_reducible refine Kd.C_drewN ?_ _) | (with_reducible refine Kd.C_drew ?_))); (case side2 => exact (Kd.R_reads' HO_7.out).2.1); (case side3 => repeat (first | exact (Kd.R_reads' HO306.out).2.2 | (with_reducible refine Kd.C_alloc ?_ _) | (with_reducible refine Kd.C_drewN ?_ _) | (with_reducible refine Kd.C_drew ?_))); (case side4 => exact (Kd.R_reads' HO306.out).2.1); rintro e w' ⟨rfl, ⟨nd, rfl⟩⟩))
              go_ret
              exact ⟨by first | rfl | (simp [errW_none, errW_some] <;> rfl) | (simp [*, errW_none, errW_some] <;> rfl), by repeat (first | (with_reducible first | exact HB.out | apply below_alloc | apply pw_below_drewN | apply below_drew1) | exact HB.out)⟩
            ·
             rw [if_neg c33] at H
             have c33b0 : (t287 == t300) = false := beq_eq_false_iff_ne.mpr c33
             have c33b1 : (t287 != t300) = true := bne_iff_ne.mpr c33
             obtain rfl := Option.some.inj H
             obtain ⟨Ao49, co49, eo49⟩ := Kd.N_slice HO_10.out
             subst eo49
             go_wp2_with (first | ((with_reducible refine gate_callee (f := 19) rfl ?_); refine goesL_ (some 83) rfl rfl Try.func19 (by kernel_rfl) rfl #[.int .i64 a0, .slice Ao49 x10_3.length co49, .slice A2 l2.length c2] rfl (by (try simp only [List.map_toArray, List.map_cons, List.map_nil]); first | done | rfl | (simp only [List.length_drop, List.length_take]; rfl)) ?_; (with_reducible refine (peel_Known.calls k3 a0 _ _ x10_3 _ _ l2 t299 t300 _ ?side1 ?side2 ?side3 ?side4 A27.out).mono ?_); (case side1 => repeat (first | exact (Kd.N_reads' HO_10.out).2.2 | (with_reducible refine Kd.C_alloc ?_ _) | (with_reducible refine Kd.C_drewN ?_ _) | (with_reducible refine Kd.C_drew ?_))); (case side2 => exact (Kd.N_reads' HO_10.out).2.1); (case side3 => repeat (first | exact (Kd.C_below HR2.out HB.out) | (with_reducible refine Kd.C_alloc ?_ _) | (with_reducible refine Kd.C_drewN ?_ _) | (with_reducible refine Kd.C_drew ?_))); (case side4 => exact HC2.out); rintro e w50 ⟨v301, rfl, ho0, hb⟩; refine ⟨_, rfl, ?_⟩; have n0_ := Aside0.mk (Kd.V_elder' (by (with_reducible repeat (first | apply Kd.V_alloc | apply Kd.V_drewN | apply Kd.V_drew)); exact HO_1.out) (Kd.R_base ho0) hb); have n1_ := Aside0.mk (Kd.R_elder' (by (with_reducible repeat (first | apply Kd.R_alloc | apply Kd.R_drewN | apply Kd.R_drew)); exact HO_7.out) (Kd.R_base ho0) hb); have n2_ := Aside0.mk (Kd.N_elder' (by (with_reducible repeat (first | apply Kd.N_alloc | apply Kd.N_drewN | apply Kd.N_drew)); exact HO_10.out) (Kd.R_base ho0) hb); have n3_ := Aside0.mk (Kd.N_elder' (by (with_reducible repeat (first | apply Kd.N_alloc | apply Kd.N_drewN | apply Kd.N_drew)); exact HO_11.out) (Kd.R_base ho0) hb); have n4_ := Aside0.mk (Kd.R_lower (Kd.R_new' (Kd.R_newM (M := fun k_ => (w.heap.size ≤ k_)) ho0 (below_size (by repeat (first | (with_reducible first | exact HB.out | apply below_alloc | apply pw_below_drewN | apply below_drew1) | exact HB.out))) (fun k_ h_ => h_)) (Kd.R_lt (by (with_reducible repeat (first | apply Kd.R_alloc | apply Kd.R_drewN | apply Kd.R_drew)); exact HO_7.out))) (below_size (by repeat (first | (with_reducible first | exact HB.out | apply below_alloc | apply pw_below_drewN | apply below_drew1) | exact HB.out)))); have n5_ := Aside0.mk (below_step (by repeat (first | (with_reducible first | exact HB.out | apply below_alloc | apply pw_below_drewN | apply below_drew1) | exact HB.out)) hb); clear HO_1; clear HO_7; clear HO_10; clear HO_11; clear HB; have HO_1 := n0_; have HO_7 := n1_; have HO_10 := n2_; have HO_11 := n3_; have HO302 := n4_; have HB := n5_; clear n0_ n1_ n2_ n3_ n4_ n5_; (try clear hb); (try clear hb2); (try clear hk); (try clear hi); (try clear ho0); obtain ⟨Ao51, co51, eo51⟩ := Kd.N_slice HO_11.out; subst eo51) | ((with_reducible refine gate_callee (f := 19) rfl ?_); refine goesL_ (some 90) rfl rfl Try.func19 (by kernel_rfl) rfl #[.int .i64 a0, .slice Ao51 x11_3.length co51, .slice A2 l2.length c2] rfl (by (try simp only [List.map_toArray, List.map_cons, List.map_nil]); first | done | rfl | (simp only [List.length_drop, List.length_take]; rfl)) ?_; (with_reducible refine (peel_Known.calls k3 a0 _ _ x11_3 _ _ l2 t303 t304 _ ?side1 ?side2 ?side3 ?side4 A28.out).mono ?_); (case side1 => repeat (first | exact (Kd.N_reads' HO_11.out).2.2 | (with_reducible refine Kd.C_alloc ?_ _) | (with_reducible refine Kd.C_drewN ?_ _) | (with_reducible refine Kd.C_drew ?_))); (case side2 => exact (Kd.N_reads' HO_11.out).2.1); (case side3 => repeat (first | exact (Kd.C_below HR2.out HB.out) | (with_reducible refine Kd.C_alloc ?_ _) | (with_reducible refine Kd.C_drewN ?_ _) | (with_reducible refine Kd.C_drew ?_))); (case side4 => exact HC2.out); rintro e w52 ⟨v305, rfl, ho0, hb⟩; refine ⟨_, rfl, ?_⟩; have n0_ := Aside0.mk (Kd.V_elder' (by (with_reducible repeat (first | apply Kd.V_alloc | apply Kd.V_drewN | apply Kd.V_drew)); exact HO_1.out) (Kd.R_base ho0) hb); have n1_ := Aside0.mk (Kd.R_elder' (by (with_reducible repeat (first | apply Kd.R_alloc | apply Kd.R_drewN | apply Kd.R_drew)); exact HO_7.out) (Kd.R_base ho0) hb); have n2_ := Aside0.mk (Kd.N_elder' (by (with_reducible repeat (first | apply Kd.N_alloc | apply Kd.N_drewN | apply Kd.N_drew)); exact HO_10.out) (Kd.R_base ho0) hb); have n3_ := Aside0.mk (Kd.N_elder' (by (with_reducible repeat (first | apply Kd.N_alloc | apply Kd.N_drewN | apply Kd.N_drew)); exact HO_11.out) (Kd.R_base ho0) hb); have n4_ := Aside0.mk (Kd.R_elder' (by (with_reducible repeat (first | apply Kd.R_alloc | apply Kd.R_drewN | apply Kd.R_drew)); exact HO302.out) (Kd.R_base ho0) hb); have n5_ := Aside0.mk (Kd.R_lower (Kd.R_new' (Kd.R_new' (Kd.R_newM (M := fun k_ => (w.heap.size ≤ k_)) ho0 (below_size (by repeat (first | (with_reducible first | exact HB.out | apply below_alloc | apply pw_below_drewN | apply below_drew1) | exact HB.out))) (fun k_ h_ => h_)) (Kd.R_lt (by (with_reducible repeat (first | apply Kd.R_alloc | apply Kd.R_drewN | apply Kd.R_drew)); exact HO_7.out))) (Kd.R_lt (by (with_reducible repeat (first | apply Kd.R_alloc | apply Kd.R_drewN | apply Kd.R_drew)); exact HO302.out))) (below_size (by repeat (first | (with_reducible first | exact HB.out | apply below_alloc | apply pw_below_drewN | apply below_drew1) | exact HB.out)))); have n6_ := Aside0.mk (below_step (by repeat (first | (with_reducible first | exact HB.out | apply below_alloc | apply pw_below_drewN | apply below_drew1) | exact HB.out)) hb); clear HO_1; clear HO_7; clear HO_10; clear HO_11; clear HO302; clear HB; have HO_1 := n0_; have HO_7 := n1_; have HO_10 := n2_; have HO_11 := n3_; have HO302 := n4_; have HO306 := n5_; have HB := n6_; clear n0_ n1_ n2_ n3_ n4_ n5_ n6_; (try clear hb); (try clear hb2); (try clear hk); (try clear hi); (try clear ho0); obtain ⟨Ao53, co53, eo53⟩ := Kd.R_slice HO_7.out; subst eo53; obtain ⟨Ao54, co54, eo54⟩ := Kd.R_slice HO302.out; subst eo54) | ((with_reducible refine gate_callee (f := 20) rfl ?_); refine goesL_ (some 95) rfl rfl Try.func20 (by kernel_rfl) rfl #[.slice Ao53 t286.length co53, .slice Ao54 t299.length co54] rfl (by (try simp only [List.map_toArray, List.map_cons, List.map_nil]); first | done | rfl | (simp only [List.length_drop, List.length_take]; rfl)) ?_; (with_reducible refine (mosaicref04_Same.calls k3 _ _ t286 _ _ t299 true _ ?side1 ?side2 ?side3 ?side4 A29.out).mono ?_); (case side1 => repeat (first | exact (Kd.R_reads' HO_7.out).2.2 | (with_reducible refine Kd.C_alloc ?_ _) | (with_reducible refine Kd.C_drewN ?_ _) | (with_reducible refine Kd.C_drew ?_))); (case side2 => exact (Kd.R_reads' HO_7.out).2.1); (case side3 => repeat (first | exact (Kd.R_reads' HO302.out).2.2 | (with_reducible refine Kd.C_alloc ?_ _) | (with_reducible refine Kd.C_drewN ?_ _) | (with_reducible refine Kd.C_drew ?_))); (case side4 => exact (Kd.R_reads' HO302.out).2.1); rintro e w' ⟨rfl, ⟨nd, rfl⟩⟩; refine ⟨_, rfl, ?_⟩; obtain ⟨Ao55, co55, eo55⟩ := Kd.R_slice HO306.out; subst eo55) | (go_at_call 20; (with_reducible refine (mosaicref04_Same.calls k3 _ _ t286 _ _ t303 true _ ?side1 ?side2 ?side3 ?side4 A31.out).mono ?_); (case side1 => repeat (first | exact (Kd.R_reads' HO_7.out).2.2 | (with_reducible refine Kd.C_alloc ?_ _) | (with_reducible refine Kd.C_drewN ?_ _) | (with_reducible refine Kd.C_drew ?_))); (case side2 => exact (Kd.R_reads' HO_7.out).2.1); (case side3 => repeat (first | exact (Kd.R_reads' HO306.out).2.2 | (with_reducible refine Kd.C_alloc ?_ _) | (with_reducible refine Kd.C_drewN ?_ _) | (with_reducible refine Kd.C_drew ?_))); (case side4 => exact (Kd.R_reads' HO306.out).2.1); rintro e w' ⟨rfl, ⟨nd, rfl⟩⟩))
             go_ret
             exact ⟨by first | rfl | (simp [errW_none, errW_some] <;> rfl) | (simp [*, errW_none, errW_some] <;> rfl), by repeat (first | (with_reducible first | exact HB.out | apply below_alloc | apply pw_below_drewN | apply below_drew1) | exact HB.out)⟩
           ·
            replace c32 := Bool.eq_false_iff.mpr c32
            subst c32
            have H1 : (some false) = some r := by rw [if_neg (show ¬ (false = true) by decide)] at H; exact H
            clear H
            have H := H1
            clear H1
            obtain rfl := Option.some.inj H
            obtain ⟨Ao56, co56, eo56⟩ := Kd.N_slice HO_10.out
            subst eo56
            go_wp2_with (first | ((with_reducible refine gate_callee (f := 19) rfl ?_); refine goesL_ (some 83) rfl rfl Try.func19 (by kernel_rfl) rfl #[.int .i64 a0, .slice Ao56 x10_3.length co56, .slice A2 l2.length c2] rfl (by (try simp only [List.map_toArray, List.map_cons, List.map_nil]); first | done | rfl | (simp only [List.length_drop, List.length_take]; rfl)) ?_; (with_reducible refine (peel_Known.calls k3 a0 _ _ x10_3 _ _ l2 t299 t300 _ ?side1 ?side2 ?side3 ?side4 A27.out).mono ?_); (case side1 => repeat (first | exact (Kd.N_reads' HO_10.out).2.2 | (with_reducible refine Kd.C_alloc ?_ _) | (with_reducible refine Kd.C_drewN ?_ _) | (with_reducible refine Kd.C_drew ?_))); (case side2 => exact (Kd.N_reads' HO_10.out).2.1); (case side3 => repeat (first | exact (Kd.C_below HR2.out HB.out) | (with_reducible refine Kd.C_alloc ?_ _) | (with_reducible refine Kd.C_drewN ?_ _) | (with_reducible refine Kd.C_drew ?_))); (case side4 => exact HC2.out); rintro e w57 ⟨v301, rfl, ho0, hb⟩; refine ⟨_, rfl, ?_⟩; have n0_ := Aside0.mk (Kd.V_elder' (by (with_reducible repeat (first | apply Kd.V_alloc | apply Kd.V_drewN | apply Kd.V_drew)); exact HO_1.out) (Kd.R_base ho0) hb); have n1_ := Aside0.mk (Kd.R_elder' (by (with_reducible repeat (first | apply Kd.R_alloc | apply Kd.R_drewN | apply Kd.R_drew)); exact HO_7.out) (Kd.R_base ho0) hb); have n2_ := Aside0.mk (Kd.N_elder' (by (with_reducible repeat (first | apply Kd.N_alloc | apply Kd.N_drewN | apply Kd.N_drew)); exact HO_10.out) (Kd.R_base ho0) hb); have n3_ := Aside0.mk (Kd.N_elder' (by (with_reducible repeat (first | apply Kd.N_alloc | apply Kd.N_drewN | apply Kd.N_drew)); exact HO_11.out) (Kd.R_base ho0) hb); have n4_ := Aside0.mk (Kd.R_lower (Kd.R_new' (Kd.R_newM (M := fun k_ => (w.heap.size ≤ k_)) ho0 (below_size (by repeat (first | (with_reducible first | exact HB.out | apply below_alloc | apply pw_below_drewN | apply below_drew1) | exact HB.out))) (fun k_ h_ => h_)) (Kd.R_lt (by (with_reducible repeat (first | apply Kd.R_alloc | apply Kd.R_drewN | apply Kd.R_drew)); exact HO_7.out))) (below_size (by repeat (first | (with_reducible first | exact HB.out | apply below_alloc | apply pw_below_drewN | apply below_drew1) | exact HB.out)))); have n5_ := Aside0.mk (below_step (by repeat (first | (with_reducible first | exact HB.out | apply below_alloc | apply pw_below_drewN | apply below_drew1) | exact HB.out)) hb); clear HO_1; clear HO_7; clear HO_10; clear HO_11; clear HB; have HO_1 := n0_; have HO_7 := n1_; have HO_10 := n2_; have HO_11 := n3_; have HO302 := n4_; have HB := n5_; clear n0_ n1_ n2_ n3_ n4_ n5_; (try clear hb); (try clear hb2); (try clear hk); (try clear hi); (try clear ho0); obtain ⟨Ao58, co58, eo58⟩ := Kd.N_slice HO_11.out; subst eo58) | ((with_reducible refine gate_callee (f := 19) rfl ?_); refine goesL_ (some 90) rfl rfl Try.func19 (by kernel_rfl) rfl #[.int .i64 a0, .slice Ao58 x11_3.length co58, .slice A2 l2.length c2] rfl (by (try simp only [List.map_toArray, List.map_cons, List.map_nil]); first | done | rfl | (simp only [List.length_drop, List.length_take]; rfl)) ?_; (with_reducible refine (peel_Known.calls k3 a0 _ _ x11_3 _ _ l2 t303 t304 _ ?side1 ?side2 ?side3 ?side4 A28.out).mono ?_); (case side1 => repeat (first | exact (Kd.N_reads' HO_11.out).2.2 | (with_reducible refine Kd.C_alloc ?_ _) | (with_reducible refine Kd.C_drewN ?_ _) | (with_reducible refine Kd.C_drew ?_))); (case side2 => exact (Kd.N_reads' HO_11.out).2.1); (case side3 => repeat (first | exact (Kd.C_below HR2.out HB.out) | (with_reducible refine Kd.C_alloc ?_ _) | (with_reducible refine Kd.C_drewN ?_ _) | (with_reducible refine Kd.C_drew ?_))); (case side4 => exact HC2.out); rintro e w59 ⟨v305, rfl, ho0, hb⟩; refine ⟨_, rfl, ?_⟩; have n0_ := Aside0.mk (Kd.V_elder' (by (with_reducible repeat (first | apply Kd.V_alloc | apply Kd.V_drewN | apply Kd.V_drew)); exact HO_1.out) (Kd.R_base ho0) hb); have n1_ := Aside0.mk (Kd.R_elder' (by (with_reducible repeat (first | apply Kd.R_alloc | apply Kd.R_drewN | apply Kd.R_drew)); exact HO_7.out) (Kd.R_base ho0) hb); have n2_ := Aside0.mk (Kd.N_elder' (by (with_reducible repeat (first | apply Kd.N_alloc | apply Kd.N_drewN | apply Kd.N_drew)); exact HO_10.out) (Kd.R_base ho0) hb); have n3_ := Aside0.mk (Kd.N_elder' (by (with_reducible repeat (first | apply Kd.N_alloc | apply Kd.N_drewN | apply Kd.N_drew)); exact HO_11.out) (Kd.R_base ho0) hb); have n4_ := Aside0.mk (Kd.R_elder' (by (with_reducible repeat (first | apply Kd.R_alloc | apply Kd.R_drewN | apply Kd.R_drew)); exact HO302.out) (Kd.R_base ho0) hb); have n5_ := Aside0.mk (Kd.R_lower (Kd.R_new' (Kd.R_new' (Kd.R_newM (M := fun k_ => (w.heap.size ≤ k_)) ho0 (below_size (by repeat (first | (with_reducible first | exact HB.out | apply below_alloc | apply pw_below_drewN | apply below_drew1) | exact HB.out))) (fun k_ h_ => h_)) (Kd.R_lt (by (with_reducible repeat (first | apply Kd.R_alloc | apply Kd.R_drewN | apply Kd.R_drew)); exact HO_7.out))) (Kd.R_lt (by (with_reducible repeat (first | apply Kd.R_alloc | apply Kd.R_drewN | apply Kd.R_drew)); exact HO302.out))) (below_size (by repeat (first | (with_reducible first | exact HB.out | apply below_alloc | apply pw_below_drewN | apply below_drew1) | exact HB.out)))); have n6_ := Aside0.mk (below_step (by repeat (first | (with_reducible first | exact HB.out | apply below_alloc | apply pw_below_drewN | apply below_drew1) | exact HB.out)) hb); clear HO_1; clear HO_7; clear HO_10; clear HO_11; clear HO302; clear HB; have HO_1 := n0_; have HO_7 := n1_; have HO_10 := n2_; have HO_11 := n3_; have HO302 := n4_; have HO306 := n5_; have HB := n6_; clear n0_ n1_ n2_ n3_ n4_ n5_ n6_; (try clear hb); (try clear hb2); (try clear hk); (try clear hi); (try clear ho0); obtain ⟨Ao60, co60, eo60⟩ := Kd.R_slice HO_7.out; subst eo60; obtain ⟨Ao61, co61, eo61⟩ := Kd.R_slice HO302.out; subst eo61) | ((with_reducible refine gate_callee (f := 20) rfl ?_); refine goesL_ (some 95) rfl rfl Try.func20 (by kernel_rfl) rfl #[.slice Ao60 t286.length co60, .slice Ao61 t299.length co61] rfl (by (try simp only [List.map_toArray, List.map_cons, List.map_nil]); first | done | rfl | (simp only [List.length_drop, List.length_take]; rfl)) ?_; (with_reducible refine (mosaicref04_Same.calls k3 _ _ t286 _ _ t299 true _ ?side1 ?side2 ?side3 ?side4 A29.out).mono ?_); (case side1 => repeat (first | exact (Kd.R_reads' HO_7.out).2.2 | (with_reducible refine Kd.C_alloc ?_ _) | (with_reducible refine Kd.C_drewN ?_ _) | (with_reducible refine Kd.C_drew ?_))); (case side2 => exact (Kd.R_reads' HO_7.out).2.1); (case side3 => repeat (first | exact (Kd.R_reads' HO302.out).2.2 | (with_reducible refine Kd.C_alloc ?_ _) | (with_reducible refine Kd.C_drewN ?_ _) | (with_reducible refine Kd.C_drew ?_))); (case side4 => exact (Kd.R_reads' HO302.out).2.1); rintro e w' ⟨rfl, ⟨nd, rfl⟩⟩; refine ⟨_, rfl, ?_⟩; obtain ⟨Ao62, co62, eo62⟩ := Kd.R_slice HO306.out; subst eo62) | (go_at_call 20; (with_reducible refine (mosaicref04_Same.calls k3 _ _ t286 _ _ t303 false _ ?side1 ?side2 ?side3 ?side4 A31.out).mono ?_); (case side1 => repeat (first | exact (Kd.R_reads' HO_7.out).2.2 | (with_reducible refine Kd.C_alloc ?_ _) | (with_reducible refine Kd.C_drewN ?_ _) | (with_reducible refine Kd.C_drew ?_))); (case side2 => exact (Kd.R_reads' HO_7.out).2.1); (case side3 => repeat (first | exact (Kd.R_reads' HO306.out).2.2 | (with_reducible refine Kd.C_alloc ?_ _) | (with_reducible refine Kd.C_drewN ?_ _) | (with_reducible refine Kd.C_drew ?_))); (case side4 => exact (Kd.R_reads' HO306.out).2.1); rintro e w' ⟨rfl, ⟨nd, rfl⟩⟩))
            go_ret
            exact ⟨by first | rfl | (simp [errW_none, errW_some] <;> rfl) | (simp [*, errW_none, errW_some] <;> rfl), by repeat (first | (with_reducible first | exact HB.out | apply below_alloc | apply pw_below_drewN | apply below_drew1) | exact HB.out)⟩
          ·
           replace c30 := Bool.eq_false_iff.mpr c30
           subst c30
           have H1 : (some false) = some r := by rw [if_neg (show ¬ (false = true) by decide)] at H; exact H
           clear H
           have H := H1
           clear H1
           obtain rfl := Option.some.inj H
           obtain ⟨Ao63, co63, eo63⟩ := Kd.N_slice HO_10.out
           subst eo63
           go_wp2_with (first | ((with_reducible refine gate_callee (f := 19) rfl ?_); refine goesL_ (some 83) rfl rfl Try.func19 (by kernel_rfl) rfl #[.int .i64 a0, .slice Ao63 x10_3.length co63, .slice A2 l2.length c2] rfl (by (try simp only [List.map_toArray, List.map_cons, List.map_nil]); first | done | rfl | (simp only [List.length_drop, List.length_take]; rfl)) ?_; (with_reducible refine (peel_Known.calls k3 a0 _ _ x10_3 _ _ l2 t299 t300 _ ?side1 ?side2 ?side3 ?side4 A27.out).mono ?_); (case side1 => repeat (first | exact (Kd.N_reads' HO_10.out).2.2 | (with_reducible refine Kd.C_alloc ?_ _) | (with_reducible refine Kd.C_drewN ?_ _) | (with_reducible refine Kd.C_drew ?_))); (case side2 => exact (Kd.N_reads' HO_10.out).2.1); (case side3 => repeat (first | exact (Kd.C_below HR2.out HB.out) | (with_reducible refine Kd.C_alloc ?_ _) | (with_reducible refine Kd.C_drewN ?_ _) | (with_reducible refine Kd.C_drew ?_))); (case side4 => exact HC2.out); rintro e w64 ⟨v301, rfl, ho0, hb⟩; refine ⟨_, rfl, ?_⟩; have n0_ := Aside0.mk (Kd.V_elder' (by (with_reducible repeat (first | apply Kd.V_alloc | apply Kd.V_drewN | apply Kd.V_drew)); exact HO_1.out) (Kd.R_base ho0) hb); have n1_ := Aside0.mk (Kd.R_elder' (by (with_reducible repeat (first | apply Kd.R_alloc | apply Kd.R_drewN | apply Kd.R_drew)); exact HO_7.out) (Kd.R_base ho0) hb); have n2_ := Aside0.mk (Kd.N_elder' (by (with_reducible repeat (first | apply Kd.N_alloc | apply Kd.N_drewN | apply Kd.N_drew)); exact HO_10.out) (Kd.R_base ho0) hb); have n3_ := Aside0.mk (Kd.N_elder' (by (with_reducible repeat (first | apply Kd.N_alloc | apply Kd.N_drewN | apply Kd.N_drew)); exact HO_11.out) (Kd.R_base ho0) hb); have n4_ := Aside0.mk (Kd.R_lower (Kd.R_new' (Kd.R_newM (M := fun k_ => (w.heap.size ≤ k_)) ho0 (below_size (by repeat (first | (with_reducible first | exact HB.out | apply below_alloc | apply pw_below_drewN | apply below_drew1) | exact HB.out))) (fun k_ h_ => h_)) (Kd.R_lt (by (with_reducible repeat (first | apply Kd.R_alloc | apply Kd.R_drewN | apply Kd.R_drew)); exact HO_7.out))) (below_size (by repeat (first | (with_reducible first | exact HB.out | apply below_alloc | apply pw_below_drewN | apply below_drew1) | exact HB.out)))); have n5_ := Aside0.mk (below_step (by repeat (first | (with_reducible first | exact HB.out | apply below_alloc | apply pw_below_drewN | apply below_drew1) | exact HB.out)) hb); clear HO_1; clear HO_7; clear HO_10; clear HO_11; clear HB; have HO_1 := n0_; have HO_7 := n1_; have HO_10 := n2_; have HO_11 := n3_; have HO302 := n4_; have HB := n5_; clear n0_ n1_ n2_ n3_ n4_ n5_; (try clear hb); (try clear hb2); (try clear hk); (try clear hi); (try clear ho0); obtain ⟨Ao65, co65, eo65⟩ := Kd.N_slice HO_11.out; subst eo65) | ((with_reducible refine gate_callee (f := 19) rfl ?_); refine goesL_ (some 90) rfl rfl Try.func19 (by kernel_rfl) rfl #[.int .i64 a0, .slice Ao65 x11_3.length co65, .slice A2 l2.length c2] rfl (by (try simp only [List.map_toArray, List.map_cons, List.map_nil]); first | done | rfl | (simp only [List.length_drop, List.length_take]; rfl)) ?_; (with_reducible refine (peel_Known.calls k3 a0 _ _ x11_3 _ _ l2 t303 t304 _ ?side1 ?side2 ?side3 ?side4 A28.out).mono ?_); (case side1 => repeat (first | exact (Kd.N_reads' HO_11.out).2.2 | (with_reducible refine Kd.C_alloc ?_ _) | (with_reducible refine Kd.C_drewN ?_ _) | (with_reducible refine Kd.C_drew ?_))); (case side2 => exact (Kd.N_reads' HO_11.out).2.1); (case side3 => repeat (first | exact (Kd.C_below HR2.out HB.out) | (with_reducible refine Kd.C_alloc ?_ _) | (with_reducible refine Kd.C_drewN ?_ _) | (with_reducible refine Kd.C_drew ?_))); (case side4 => exact HC2.out); rintro e w66 ⟨v305, rfl, ho0, hb⟩; refine ⟨_, rfl, ?_⟩; have n0_ := Aside0.mk (Kd.V_elder' (by (with_reducible repeat (first | apply Kd.V_alloc | apply Kd.V_drewN | apply Kd.V_drew)); exact HO_1.out) (Kd.R_base ho0) hb); have n1_ := Aside0.mk (Kd.R_elder' (by (with_reducible repeat (first | apply Kd.R_alloc | apply Kd.R_drewN | apply Kd.R_drew)); exact HO_7.out) (Kd.R_base ho0) hb); have n2_ := Aside0.mk (Kd.N_elder' (by (with_reducible repeat (first | apply Kd.N_alloc | apply Kd.N_drewN | apply Kd.N_drew)); exact HO_10.out) (Kd.R_base ho0) hb); have n3_ := Aside0.mk (Kd.N_elder' (by (with_reducible repeat (first | apply Kd.N_alloc | apply Kd.N_drewN | apply Kd.N_drew)); exact HO_11.out) (Kd.R_base ho0) hb); have n4_ := Aside0.mk (Kd.R_elder' (by (with_reducible repeat (first | apply Kd.R_alloc | apply Kd.R_drewN | apply Kd.R_drew)); exact HO302.out) (Kd.R_base ho0) hb); have n5_ := Aside0.mk (Kd.R_lower (Kd.R_new' (Kd.R_new' (Kd.R_newM (M := fun k_ => (w.heap.size ≤ k_)) ho0 (below_size (by repeat (first | (with_reducible first | exact HB.out | apply below_alloc | apply pw_below_drewN | apply below_drew1) | exact HB.out))) (fun k_ h_ => h_)) (Kd.R_lt (by (with_reducible repeat (first | apply Kd.R_alloc | apply Kd.R_drewN | apply Kd.R_drew)); exact HO_7.out))) (Kd.R_lt (by (with_reducible repeat (first | apply Kd.R_alloc | apply Kd.R_drewN | apply Kd.R_drew)); exact HO302.out))) (below_size (by repeat (first | (with_reducible first | exact HB.out | apply below_alloc | apply pw_below_drewN | apply below_drew1) | exact HB.out)))); have n6_ := Aside0.mk (below_step (by repeat (first | (with_reducible first | exact HB.out | apply below_alloc | apply pw_below_drewN | apply below_drew1) | exact HB.out)) hb); clear HO_1; clear HO_7; clear HO_10; clear HO_11; clear HO302; clear HB; have HO_1 := n0_; have HO_7 := n1_; have HO_10 := n2_; have HO_11 := n3_; have HO302 := n4_; have HO306 := n5_; have HB := n6_; clear n0_ n1_ n2_ n3_ n4_ n5_ n6_; (try clear hb); (try clear hb2); (try clear hk); (try clear hi); (try clear ho0); obtain ⟨Ao67, co67, eo67⟩ := Kd.R_slice HO_7.out; subst eo67; obtain ⟨Ao68, co68, eo68⟩ := Kd.R_slice HO302.out; subst eo68) | ((with_reducible refine gate_callee (f := 20) rfl ?_); refine goesL_ (some 95) rfl rfl Try.func20 (by kernel_rfl) rfl #[.slice Ao67 t286.length co67, .slice Ao68 t299.length co68] rfl (by (try simp only [List.map_toArray, List.map_cons, List.map_nil]); first | done | rfl | (simp only [List.length_drop, List.length_take]; rfl)) ?_; (with_reducible refine (mosaicref04_Same.calls k3 _ _ t286 _ _ t299 false _ ?side1 ?side2 ?side3 ?side4 A29.out).mono ?_); (case side1 => repeat (first | exact (Kd.R_reads' HO_7.out).2.2 | (with_reducible refine Kd.C_alloc ?_ _) | (with_reducible refine Kd.C_drewN ?_ _) | (with_reducible refine Kd.C_drew ?_))); (case side2 => exact (Kd.R_reads' HO_7.out).2.1); (case side3 => repeat (first | exact (Kd.R_reads' HO302.out).2.2 | (with_reducible refine Kd.C_alloc ?_ _) | (with_reducible refine Kd.C_drewN ?_ _) | (with_reducible refine Kd.C_drew ?_))); (case side4 => exact (Kd.R_reads' HO302.out).2.1); rintro e w' ⟨rfl, ⟨nd, rfl⟩⟩; refine ⟨_, rfl, ?_⟩))
           go_ret
           exact ⟨by first | rfl | (simp [errW_none, errW_some] <;> rfl) | (simp [*, errW_none, errW_some] <;> rfl), by repeat (first | (with_reducible first | exact HB.out | apply below_alloc | apply pw_below_drewN | apply below_drew1) | exact HB.out)⟩
      ·
       rw [if_neg c14] at H
       have c14b0 : decide (x9_2 < (l1.length : Int)) = false := decide_eq_false c14
       clear c14
       replace H := Option.bind_eq_some_iff.mp H
       obtain ⟨t290, A690, H⟩ := H
       replace H : (some t290) = some r := H
       have A69 := Aside0.mk A690
       clear A690
       obtain rfl := Option.some.inj H
       go_wp2_with (first | ((with_reducible refine gate_callee (f := 18) rfl ?_); refine goesL_ (some 113) rfl rfl Try.func18 (by kernel_rfl) rfl #[] rfl (by (try simp only [List.map_toArray, List.map_cons, List.map_nil]); first | done | rfl | (simp only [List.length_drop, List.length_take]; rfl)) ?_; (with_reducible refine (mosaiclaw13_awake.calls k2  t290 _ A69.out).mono ?_); rintro e w70 ⟨rfl, hb⟩; refine ⟨_, rfl, ?_⟩; have n0_ := Aside0.mk (Kd.V_below (by (with_reducible repeat (first | apply Kd.V_alloc | apply Kd.V_drewN | apply Kd.V_drew)); exact HO_1.out) hb); have n1_ := Aside0.mk (Kd.R_below (by (with_reducible repeat (first | apply Kd.R_alloc | apply Kd.R_drewN | apply Kd.R_drew)); exact HO_7.out) hb); have n2_ := Aside0.mk (below_step (by repeat (first | (with_reducible first | exact HB.out | apply below_alloc | apply pw_below_drewN | apply below_drew1) | exact HB.out)) hb); clear HO_1; clear HO_7; clear HB; have HO_1 := n0_; have HO_7 := n1_; have HB := n2_; clear n0_ n1_ n2_; (try clear hb); (try clear hb2); (try clear hk); (try clear hi)))
       go_ret
       exact ⟨by first | rfl | (simp [errW_none, errW_some] <;> rfl) | (simp [*, errW_none, errW_some] <;> rfl), by repeat (first | (with_reducible first | exact HB.out | apply below_alloc | apply pw_below_drewN | apply below_drew1) | exact HB.out)⟩

end Go.Proofs.Ytnchcapdfmccjaa.Print
/-! #### StmPeelOrder -/
-- By the kit's print, called by a program of this session with functions that are proved by hand.
namespace Go.Proofs.Ytnchcapdfmccjaa.Print
open Go.RowKit Go.Proofs.YtnchcapdfmccjaaW.PrintWords
/-- THE ONE PURE STATEMENT of mosaiclaw13_PeelOrder. -/
def mosaiclaw13_PeelOrder.Pure : Prop := ∀ (a0 : Int) (l1 : List (List Int)) (l2 : List Int), ((Lit.int .i64 a0).wf = true) → ((l1 : List (List Int)).length ≤ maxLen ∧ ∀ x1_ ∈ (l1 : List (List Int)), (x1_ : List Int).length ≤ maxLen ∧ ∀ x2_ ∈ (x1_ : List Int), (Lit.int .i64 x2_).wf = true) → ((l2 : List Int).length ≤ maxLen ∧ ∀ x3_ ∈ (l2 : List Int), (Lit.int .i64 x3_).wf = true) → ∃ k, mosaiclaw13_PeelOrder.f k a0 l1 l2 = some true
end Go.Proofs.Ytnchcapdfmccjaa.Print
/-! #### Pr21 -/
-- By the kit's print, called by a program of this session with functions that are proved by hand.
namespace Go.Proofs.Ytnchcapdfmccjaa.Print
open Go.RowKit Go.Proofs.YtnchcapdfmccjaaW.PrintWords Go.Proofs.YtnchcapdfmccjaaW.PrintLast Go.Proofs.YtnchcapdfmccjaaW.PrintMore
attribute [local go_sem] max2_int min2_int max_two min_two max_three min_three max_four min_four
set_option linter.unusedVariables false
set_option linter.unusedSimpArgs false

/-! ### mosaicref09_Has: function 21 -/
def mosaicref09_Has.l0 : Nat → List Int → Int → Int → Option (Bool)
 | 0, _, _, _ => none
 | k + 1, x0, x1, x5 => if x5 < (x0.length : Int) then (if 0 ≤ x5 then (if (rd x0 x5) = x1 then (some true) else (mosaicref09_Has.l0 k x0 x1 (wrap64 (x5 + 1)))) else (none)) else (some false)
def mosaicref09_Has.f (k : Nat) (l0 : List Int) (a1 : Int) : Option (Bool) := mosaicref09_Has.l0 k l0 a1 0
theorem mosaicref09_Has.mono_l : ∀ k, (∀ y0 y1 y2, LeO (mosaicref09_Has.l0 k y0 y1 y2) (mosaicref09_Has.l0 (k + 1) y0 y1 y2))
 | 0 => fun _ _ _ r h => by simp [mosaicref09_Has.l0] at h
 | k + 1 => by
  have ih0 := mosaicref09_Has.mono_l k
  ·
   intro y0 y1 y2
   unfold mosaicref09_Has.l0
   repeat' first
   | (with_reducible exact ih0 _ _ _)
   | (with_reducible exact LeO.refl _)
   | (with_reducible exact LeO.none _)
   | (with_reducible refine LeO.ite ?_ ?_)
   | (with_reducible refine LeO.bind ?_ (fun _ => ?_))
   | exact ih0 _ _ _
   | exact LeO.none _
   | refine LeO.ite ?_ ?_
   | refine LeO.bind ?_ (fun _ => ?_)
theorem mosaicref09_Has.mono : ∀ a0 a1 k, LeO (mosaicref09_Has.f k a0 a1) (mosaicref09_Has.f (k + 1) a0 a1) := by
 intro a0 a1 k
 have ih0 := mosaicref09_Has.mono_l k
 unfold mosaicref09_Has.f
 repeat' first
   | (with_reducible exact ih0 _ _ _)
   | (with_reducible exact LeO.refl _)
   | (with_reducible exact LeO.none _)
   | (with_reducible refine LeO.ite ?_ ?_)
   | (with_reducible refine LeO.bind ?_ (fun _ => ?_))
   | exact ih0 _ _ _
   | exact LeO.none _
   | refine LeO.ite ?_ ?_
   | refine LeO.bind ?_ (fun _ => ?_)
set_option maxHeartbeats 8000000 in
set_option maxRecDepth 100000 in
theorem mosaicref09_Has.calls (k : Nat) (A0 : Option Addr) (c0 : Nat) (l0 : List Int) (a1 : Int) (r : Bool) (w : World) (hr0 : Kd.C (Kd.int .i64) w A0 l0.length l0) (hc0 : l0.length ≤ c0) (h : mosaicref09_Has.f k l0 a1 = some r) :
  Calls Try.prog 21 #[.slice A0 l0.length c0, .int .i64 a1] w fun e w' => e = .returned (.bool r) ∧ Drawn0 w w' := by
 have HR0 := Aside0.mk hr0
 have HC0 := Aside0.mk hc0
 clear hr0 hc0
 have H : (mosaicref09_Has.l0 k l0 a1 0) = some r := h
 clear h
 have H' := Aside0.mk H
 clear H
 go_enter Try.func21, Try.ntmps21
 go_wp2
 go_loopg [5] k (fun kq v5 w' => ∃ (x5_1 : Int), v5 = .int .i64 x5_1 ∧ Aside0 (mosaicref09_Has.l0 kq l0 a1 x5_1 = some r) ∧ Aside0 (kq ≤ k) ∧ Drawn0 w w')
 case atStart => exact ⟨(0), (by first | rfl | (simp; done) | (simp [*]; done)), H', ⟨Nat.le_refl _⟩, by repeat (first | exact Drawn0.refl _ | apply Drawn0.step)⟩
 case round =>
  clear H'
  try clear c2
  try clear p2
  obtain ⟨x5_1, rfl, HA, HK1, ⟨m1, rfl⟩⟩ := hrel
  cases gk with
  | zero => exact absurd HA.out (by simp [mosaicref09_Has.l0])
  | succ k1 =>
   have H := HA.out
   clear HA
   simp only [mosaicref09_Has.l0] at H
   by_cases c3 : x5_1 < (l0.length : Int)
   ·
    rw [if_pos c3] at H
    have c3b0 : decide (x5_1 < (l0.length : Int)) = true := decide_eq_true c3
    clear c3
    by_cases c4 : 0 ≤ x5_1
    ·
     rw [if_pos c4] at H
     have c4b0 : decide (0 ≤ x5_1) = true := decide_eq_true c4
     clear c4
     by_cases c5 : (rd l0 x5_1) = a1
     ·
      rw [if_pos c5] at H
      have c5b0 : ((rd l0 x5_1) == a1) = true := beq_iff_eq.mpr c5
      have c5b1 : ((rd l0 x5_1) != a1) = false := bne_eq_false_iff_eq.mpr c5
      clear c5
      obtain rfl := Option.some.inj H
      have p186 : 0 ≤ (x5_1 : Int) := of_decide_eq_true (by first | (with_reducible assumption) | assumption)
      have q186 : x5_1 < (l0.length : Int) := of_decide_eq_true (by first | (with_reducible assumption) | assumption)
      obtain ⟨ad186, e186, hx186_0⟩ := Kd.at_int HR0.out x5_1 p186 q186
      cases e186
      replace p186 := eq_true p186
      replace q186 := eq_true q186
      go_wp2
      go_ret
      exact ⟨by first | rfl | (simp; done) | (simp [*]; done), by repeat (first | exact Drawn0.refl _ | apply Drawn0.step)⟩
     ·
      rw [if_neg c5] at H
      have c5b0 : ((rd l0 x5_1) == a1) = false := beq_eq_false_iff_ne.mpr c5
      have c5b1 : ((rd l0 x5_1) != a1) = true := bne_iff_ne.mpr c5
      have H' := Aside0.mk H
      clear H
      have p186 : 0 ≤ (x5_1 : Int) := of_decide_eq_true (by first | (with_reducible assumption) | assumption)
      have q186 : x5_1 < (l0.length : Int) := of_decide_eq_true (by first | (with_reducible assumption) | assumption)
      obtain ⟨ad186, e186, hx186_0⟩ := Kd.at_int HR0.out x5_1 p186 q186
      cases e186
      replace p186 := eq_true p186
      replace q186 := eq_true q186
      go_wp2
      go_roundg k1
      case measure => have := HK1.out; omega
      case rel => exact ⟨(wrap64 (x5_1 + 1)), (by first | rfl | (simp; done) | (simp [*]; done)), H', ⟨by have := HK1.out; omega⟩, by repeat (first | exact Drawn0.refl _ | apply Drawn0.step)⟩
    ·
     rw [if_neg c4] at H
     exact absurd H (by simp)
   ·
    rw [if_neg c3] at H
    have c3b0 : decide (x5_1 < (l0.length : Int)) = false := decide_eq_false c3
    clear c3
    obtain rfl := Option.some.inj H
    go_wp2
    go_ret
    exact ⟨by first | rfl | (simp; done) | (simp [*]; done), by repeat (first | exact Drawn0.refl _ | apply Drawn0.step)⟩

end Go.Proofs.Ytnchcapdfmccjaa.Print
/-! #### Pr35 -/
-- By the kit's print, called by a program of this session with functions that are proved by hand.
namespace Go.Proofs.Ytnchcapdfmccjaa.Print
open Go.RowKit Go.Proofs.YtnchcapdfmccjaaW.PrintWords Go.Proofs.YtnchcapdfmccjaaW.PrintLast Go.Proofs.YtnchcapdfmccjaaW.PrintMore
attribute [local go_sem] max2_int min2_int max_two min_two max_three min_three max_four min_four
set_option linter.unusedVariables false
set_option linter.unusedSimpArgs false

/-! ### mosaicref12_May: function 35 -/
mutual
def mosaicref12_May.j0 : Nat → Int → List (List Int) → Bool → Option (Bool)
 | 0, _, _, _ => none
 | k + 1, x0, x1, x18 => if x18 = true then (some false) else (mosaicref12_May.l0 k x0 x1 0)
def mosaicref12_May.l0 : Nat → Int → List (List Int) → Int → Option (Bool)
 | 0, _, _, _ => none
 | k + 1, x0, x1, x5 => if x5 < (x1.length : Int) then (mosaicref12_May.l1 k x0 x1 x5 0) else (some true)
def mosaicref12_May.l1 : Nat → Int → List (List Int) → Int → Int → Option (Bool)
 | 0, _, _, _, _ => none
 | k + 1, x0, x1, x5, x6 => if 0 ≤ x5 then (if x5 < (x1.length : Int) then (if x6 < ((rd_L3 x1 x5).length : Int) then (if 0 ≤ x6 then (if (rd (rd_L3 x1 x5) x6) < 0 then (some false) else (if (rd (rd_L3 x1 x5) x6) ≥ x0 then (some false) else (if x6 > 0 then (if 0 ≤ (wrap64 (x6 - 1)) then (if (wrap64 (x6 - 1)) < ((rd_L3 x1 x5).length : Int) then (if (rd (rd_L3 x1 x5) x6) ≤ (rd (rd_L3 x1 x5) (wrap64 (x6 - 1))) then (some false) else (mosaicref12_May.l1 k x0 x1 x5 (wrap64 (x6 + 1)))) else (none)) else (none)) else (mosaicref12_May.l1 k x0 x1 x5 (wrap64 (x6 + 1)))))) else (none)) else (mosaicref12_May.l0 k x0 x1 (wrap64 (x5 + 1)))) else (none)) else (none)
end
def mosaicref12_May.f (k : Nat) (a0 : Int) (l1 : List (List Int)) : Option (Bool) := if a0 < 0 then (mosaicref12_May.j0 k a0 l1 true) else (if a0 > 160 then (mosaicref12_May.j0 k a0 l1 true) else (mosaicref12_May.j0 k a0 l1 (decide ((l1.length : Int) > 400))))
theorem mosaicref12_May.mono_l : ∀ k, (∀ y0 y1 y2, LeO (mosaicref12_May.j0 k y0 y1 y2) (mosaicref12_May.j0 (k + 1) y0 y1 y2)) ∧ (∀ y0 y1 y2, LeO (mosaicref12_May.l0 k y0 y1 y2) (mosaicref12_May.l0 (k + 1) y0 y1 y2)) ∧ (∀ y0 y1 y2 y3, LeO (mosaicref12_May.l1 k y0 y1 y2 y3) (mosaicref12_May.l1 (k + 1) y0 y1 y2 y3))
 | 0 => ⟨fun _ _ _ r h => by simp [mosaicref12_May.j0] at h, fun _ _ _ r h => by simp [mosaicref12_May.l0] at h, fun _ _ _ _ r h => by simp [mosaicref12_May.l1] at h⟩
 | k + 1 => by
  obtain ⟨ih0, ih1, ih2⟩ := mosaicref12_May.mono_l k
  refine ⟨?_, ?_, ?_⟩
  ·
   intro y0 y1 y2
   unfold mosaicref12_May.j0
   repeat' first
   | (with_reducible exact ih0 _ _ _)
   | (with_reducible exact ih1 _ _ _)
   | (with_reducible exact ih2 _ _ _ _)
   | (with_reducible exact LeO.refl _)
   | (with_reducible exact LeO.none _)
   | (with_reducible refine LeO.ite ?_ ?_)
   | (with_reducible refine LeO.bind ?_ (fun _ => ?_))
   | exact ih0 _ _ _
   | exact ih1 _ _ _
   | exact ih2 _ _ _ _
   | exact LeO.none _
   | refine LeO.ite ?_ ?_
   | refine LeO.bind ?_ (fun _ => ?_)
  ·
   intro y0 y1 y2
   unfold mosaicref12_May.l0
   repeat' first
   | (with_reducible exact ih0 _ _ _)
   | (with_reducible exact ih1 _ _ _)
   | (with_reducible exact ih2 _ _ _ _)
   | (with_reducible exact LeO.refl _)
   | (with_reducible exact LeO.none _)
   | (with_reducible refine LeO.ite ?_ ?_)
   | (with_reducible refine LeO.bind ?_ (fun _ => ?_))
   | exact ih0 _ _ _
   | exact ih1 _ _ _
   | exact ih2 _ _ _ _
   | exact LeO.none _
   | refine LeO.ite ?_ ?_
   | refine LeO.bind ?_ (fun _ => ?_)
  ·
   intro y0 y1 y2 y3
   unfold mosaicref12_May.l1
   repeat' first
   | (with_reducible exact ih0 _ _ _)
   | (with_reducible exact ih1 _ _ _)
   | (with_reducible exact ih2 _ _ _ _)
   | (with_reducible exact LeO.refl _)
   | (with_reducible exact LeO.none _)
   | (with_reducible refine LeO.ite ?_ ?_)
   | (with_reducible refine LeO.bind ?_ (fun _ => ?_))
   | exact ih0 _ _ _
   | exact ih1 _ _ _
   | exact ih2 _ _ _ _
   | exact LeO.none _
   | refine LeO.ite ?_ ?_
   | refine LeO.bind ?_ (fun _ => ?_)
theorem mosaicref12_May.mono : ∀ a0 a1 k, LeO (mosaicref12_May.f k a0 a1) (mosaicref12_May.f (k + 1) a0 a1) := by
 intro a0 a1 k
 obtain ⟨ih0, ih1, ih2⟩ := mosaicref12_May.mono_l k
 unfold mosaicref12_May.f
 repeat' first
   | (with_reducible exact ih0 _ _ _)
   | (with_reducible exact ih1 _ _ _)
   | (with_reducible exact ih2 _ _ _ _)
   | (with_reducible exact LeO.refl _)
   | (with_reducible exact LeO.none _)
   | (with_reducible refine LeO.ite ?_ ?_)
   | (with_reducible refine LeO.bind ?_ (fun _ => ?_))
   | exact ih0 _ _ _
   | exact ih1 _ _ _
   | exact ih2 _ _ _ _
   | exact LeO.none _
   | refine LeO.ite ?_ ?_
   | refine LeO.bind ?_ (fun _ => ?_)
set_option maxHeartbeats 8000000 in
set_option maxRecDepth 100000 in
theorem mosaicref12_May.calls (k : Nat) (a0 : Int) (A1 : Option Addr) (c1 : Nat) (l1 : List (List Int)) (r : Bool) (w : World) (hr1 : Kd.C (Kd.slice 3 (Kd.int .i64)) w A1 l1.length l1) (hc1 : l1.length ≤ c1) (h : mosaicref12_May.f k a0 l1 = some r) :
  Calls Try.prog 35 #[.int .i64 a0, .slice A1 l1.length c1] w fun e w' => e = .returned (.bool r) ∧ Drawn0 w w' := by
 have HR1 := Aside0.mk hr1
 have HC1 := Aside0.mk hc1
 clear hr1 hc1
 have H : (if a0 < 0 then (mosaicref12_May.j0 k a0 l1 true) else (if a0 > 160 then (mosaicref12_May.j0 k a0 l1 true) else (mosaicref12_May.j0 k a0 l1 (decide ((l1.length : Int) > 400))))) = some r := h
 clear h
 have HC3 := Aside0.mk H
 clear H
 go_enter Try.func35, Try.ntmps35
 go_upto_region 1 with (fail)
 go_cut [18] (fun v18 wc => ∃ (kq : Nat) (x18_2 : Bool), v18 = .bool x18_2 ∧ Aside0 (mosaicref12_May.j0 kq a0 l1 x18_2 = some r) ∧ Aside0 (kq ≤ k) ∧ Drawn0 w wc)
 case first =>
  have H := HC3.out
  clear HC3
  by_cases c4 : a0 < 0
  ·
   rw [if_pos c4] at H
   have c4b0 : decide (a0 < 0) = true := decide_eq_true c4
   clear c4
   (first | rw [c4b0] | (simp only [i64_w, i32_w]; rw [c4b0]) | skip)
   have H' := Aside0.mk H
   clear H
   go_wp2
   go_meet
   case rel => exact ⟨_, (true), (by first | rfl | (simp; done) | (simp [*]; done)), H', ⟨by first | omega | exact Nat.le_refl _⟩, by repeat (first | exact Drawn0.refl _ | apply Drawn0.step)⟩
  ·
   rw [if_neg c4] at H
   have c4b0 : decide (a0 < 0) = false := decide_eq_false c4
   clear c4
   (first | rw [c4b0] | (simp only [i64_w, i32_w]; rw [c4b0]) | skip)
   by_cases c5 : a0 > 160
   ·
    rw [if_pos c5] at H
    have c5b0 : decide (160 < a0) = true := decide_eq_true c5
    clear c5
    have H' := Aside0.mk H
    clear H
    go_wp2
    go_meet
    case rel => exact ⟨_, (true), (by first | rfl | (simp; done) | (simp [*]; done)), H', ⟨by first | omega | exact Nat.le_refl _⟩, by repeat (first | exact Drawn0.refl _ | apply Drawn0.step)⟩
   ·
    rw [if_neg c5] at H
    have c5b0 : decide (160 < a0) = false := decide_eq_false c5
    clear c5
    have H' := Aside0.mk H
    clear H
    go_wp2
    go_meet
    case rel => exact ⟨_, (decide ((l1.length : Int) > 400)), (by first | rfl | (simp; done) | (simp [*]; done)), H', ⟨by first | omega | exact Nat.le_refl _⟩, by repeat (first | exact Drawn0.refl _ | apply Drawn0.step)⟩
 case rest =>
  clear HC3
  try clear c1
  try clear p2
  try clear c3
  try clear c4
  try clear c4b0
  try clear c5
  try clear c5b0
  obtain ⟨kq, x18_2, rfl, HA, HJ2, ⟨mc2, rfl⟩⟩ := hcut
  cases kq with
  | zero => exact absurd HA.out (by simp [mosaicref12_May.j0])
  | succ kj2 =>
   have H := HA.out
   clear HA
   simp only [mosaicref12_May.j0] at H
   by_cases c6 : x18_2 = true
   ·
    subst c6
    have H1 : (some false) = some r := by rw [if_pos rfl] at H; exact H
    clear H
    have H := H1
    clear H1
    obtain rfl := Option.some.inj H
    go_wp2
    go_ret
    exact ⟨by first | rfl | (simp; done) | (simp [*]; done), by repeat (first | exact Drawn0.refl _ | apply Drawn0.step)⟩
   ·
    replace c6 := Bool.eq_false_iff.mpr c6
    subst c6
    have H1 : (mosaicref12_May.l0 kj2 a0 l1 0) = some r := by rw [if_neg (show ¬ (false = true) by decide)] at H; exact H
    clear H
    have H := H1
    clear H1
    have H' := Aside0.mk H
    clear H
    go_wp2
    go_loopg [5] kj2 (fun kq v5 w' => ∃ (x5_2 : Int), v5 = .int .i64 x5_2 ∧ Aside0 (mosaicref12_May.l0 kq a0 l1 x5_2 = some r) ∧ Aside0 (kq ≤ kj2) ∧ Drawn0 w w')
    case atStart => exact ⟨(0), (by first | rfl | (simp; done) | (simp [*]; done)), H', ⟨Nat.le_refl _⟩, by repeat (first | exact Drawn0.refl _ | apply Drawn0.step)⟩
    case round =>
     clear H'
     try clear c1
     try clear c2
     try clear p2
     try clear c3
     try clear c4
     try clear c4b0
     try clear c5
     try clear c5b0
     try clear c6
     try clear p2
     obtain ⟨x5_2, rfl, HA, HK2, ⟨m2, rfl⟩⟩ := hrel
     cases gk with
     | zero => exact absurd HA.out (by simp [mosaicref12_May.l0])
     | succ k2 =>
      have H := HA.out
      clear HA
      simp only [mosaicref12_May.l0] at H
      by_cases c7 : x5_2 < (l1.length : Int)
      ·
       rw [if_pos c7] at H
       have c7b0 : decide (x5_2 < (l1.length : Int)) = true := decide_eq_true c7
       clear c7
       have H' := Aside0.mk H
       clear H
       go_wp2
       go_loopg [6] k2 (fun kq v6 w' => ∃ (x6_3 : Int), v6 = .int .i64 x6_3 ∧ Aside0 (mosaicref12_May.l1 kq a0 l1 x5_2 x6_3 = some r) ∧ Aside0 (kq ≤ k2) ∧ Drawn0 w w')
       case atStart => exact ⟨(0), (by first | rfl | (simp; done) | (simp [*]; done)), H', ⟨Nat.le_refl _⟩, by repeat (first | exact Drawn0.refl _ | apply Drawn0.step)⟩
       case round =>
        clear H'
        try clear c1
        try clear c2
        try clear p2
        try clear c3
        try clear c4
        try clear c4b0
        try clear c5
        try clear c5b0
        try clear c6
        try clear c7
        try clear c7b0
        try clear p2
        obtain ⟨x6_3, rfl, HA, HK3, ⟨m3, rfl⟩⟩ := hrel
        cases gk with
        | zero => exact absurd HA.out (by simp [mosaicref12_May.l1])
        | succ k3 =>
         have H := HA.out
         clear HA
         simp only [mosaicref12_May.l1] at H
         by_cases c8 : 0 ≤ x5_2
         ·
          rw [if_pos c8] at H
          have c8b0 : decide (0 ≤ x5_2) = true := decide_eq_true c8
          clear c8
          by_cases c9 : x5_2 < (l1.length : Int)
          ·
           rw [if_pos c9] at H
           have c9b0 : decide (x5_2 < (l1.length : Int)) = true := decide_eq_true c9
           clear c9
           by_cases c10 : x6_3 < ((rd_L3 l1 x5_2).length : Int)
           ·
            rw [if_pos c10] at H
            have c10b0 : decide (x6_3 < ((rd_L3 l1 x5_2).length : Int)) = true := decide_eq_true c10
            clear c10
            by_cases c11 : 0 ≤ x6_3
            ·
             rw [if_pos c11] at H
             have c11b0 : decide (0 ≤ x6_3) = true := decide_eq_true c11
             clear c11
             by_cases c12 : (rd (rd_L3 l1 x5_2) x6_3) < 0
             ·
              rw [if_pos c12] at H
              have c12b0 : decide ((rd (rd_L3 l1 x5_2) x6_3) < 0) = true := decide_eq_true c12
              clear c12
              obtain rfl := Option.some.inj H
              have p176 : 0 ≤ (x5_2 : Int) := of_decide_eq_true (by first | (with_reducible assumption) | assumption)
              have q176 : x5_2 < (l1.length : Int) := of_decide_eq_true (by first | (with_reducible assumption) | assumption)
              obtain ⟨ad176, A176_0, c176_0, e176, hx176_0, hl176_0, hi176_0⟩ := at_L3 HR1.out x5_2 p176 q176
              cases e176
              have HR176_0 := Aside0.mk hi176_0
              have HC176_0 := Aside0.mk hl176_0
              clear hi176_0 hl176_0
              replace p176 := eq_true p176
              replace q176 := eq_true q176
              have p177 : 0 ≤ (x5_2 : Int) := of_decide_eq_true (by first | (with_reducible assumption) | assumption)
              have q177 : x5_2 < (l1.length : Int) := of_decide_eq_true (by first | (with_reducible assumption) | assumption)
              obtain ⟨ad177, A177_0, c177_0, e177, hx177_0, hl177_0, hi177_0⟩ := at_L3 HR1.out x5_2 p177 q177
              obtain rfl : ad176 = ad177 := (by injection e177)
              have HR177_0 := Aside0.mk hi177_0
              have HC177_0 := Aside0.mk hl177_0
              clear hi177_0 hl177_0
              replace p177 := eq_true p177
              replace q177 := eq_true q177
              have ea_ := Option.some.inj (hx176_0.symm.trans hx177_0)
              injection ea_ with ea_ en_ ec_
              subst ea_
              subst ec_
              clear en_
              have p178 : 0 ≤ (x6_3 : Int) := of_decide_eq_true (by first | (with_reducible assumption) | assumption)
              have q178 : x6_3 < ((rd_L3 l1 x5_2).length : Int) := of_decide_eq_true (by first | (with_reducible assumption) | assumption)
              obtain ⟨ad178, e178, hx178_0⟩ := Kd.at_int HR177_0.out x6_3 p178 q178
              cases e178
              replace p178 := eq_true p178
              replace q178 := eq_true q178
              go_wp2
              go_ret
              exact ⟨by first | rfl | (simp; done) | (simp [*]; done), by repeat (first | exact Drawn0.refl _ | apply Drawn0.step)⟩
             ·
              rw [if_neg c12] at H
              have c12b0 : decide ((rd (rd_L3 l1 x5_2) x6_3) < 0) = false := decide_eq_false c12
              clear c12
              by_cases c13 : (rd (rd_L3 l1 x5_2) x6_3) ≥ a0
              ·
               rw [if_pos c13] at H
               have c13b0 : decide (a0 ≤ (rd (rd_L3 l1 x5_2) x6_3)) = true := decide_eq_true c13
               clear c13
               obtain rfl := Option.some.inj H
               have p176 : 0 ≤ (x5_2 : Int) := of_decide_eq_true (by first | (with_reducible assumption) | assumption)
               have q176 : x5_2 < (l1.length : Int) := of_decide_eq_true (by first | (with_reducible assumption) | assumption)
               obtain ⟨ad176, A176_0, c176_0, e176, hx176_0, hl176_0, hi176_0⟩ := at_L3 HR1.out x5_2 p176 q176
               cases e176
               have HR176_0 := Aside0.mk hi176_0
               have HC176_0 := Aside0.mk hl176_0
               clear hi176_0 hl176_0
               replace p176 := eq_true p176
               replace q176 := eq_true q176
               have p177 : 0 ≤ (x5_2 : Int) := of_decide_eq_true (by first | (with_reducible assumption) | assumption)
               have q177 : x5_2 < (l1.length : Int) := of_decide_eq_true (by first | (with_reducible assumption) | assumption)
               obtain ⟨ad177, A177_0, c177_0, e177, hx177_0, hl177_0, hi177_0⟩ := at_L3 HR1.out x5_2 p177 q177
               obtain rfl : ad176 = ad177 := (by injection e177)
               have HR177_0 := Aside0.mk hi177_0
               have HC177_0 := Aside0.mk hl177_0
               clear hi177_0 hl177_0
               replace p177 := eq_true p177
               replace q177 := eq_true q177
               have ea_ := Option.some.inj (hx176_0.symm.trans hx177_0)
               injection ea_ with ea_ en_ ec_
               subst ea_
               subst ec_
               clear en_
               have p178 : 0 ≤ (x6_3 : Int) := of_decide_eq_true (by first | (with_reducible assumption) | assumption)
               have q178 : x6_3 < ((rd_L3 l1 x5_2).length : Int) := of_decide_eq_true (by first | (with_reducible assumption) | assumption)
               obtain ⟨ad178, e178, hx178_0⟩ := Kd.at_int HR177_0.out x6_3 p178 q178
               cases e178
               replace p178 := eq_true p178
               replace q178 := eq_true q178
               go_wp2
               go_ret
               exact ⟨by first | rfl | (simp; done) | (simp [*]; done), by repeat (first | exact Drawn0.refl _ | apply Drawn0.step)⟩
              ·
               rw [if_neg c13] at H
               have c13b0 : decide (a0 ≤ (rd (rd_L3 l1 x5_2) x6_3)) = false := decide_eq_false c13
               clear c13
               by_cases c14 : x6_3 > 0
               ·
                rw [if_pos c14] at H
                have c14b0 : decide (0 < x6_3) = true := decide_eq_true c14
                clear c14
                obtain ⟨ji15, hji15⟩ : ∃ j_ : Int, (wrap64 (x6_3 - 1)) = j_ := ⟨_, rfl⟩
                replace H : (if 0 ≤ (ji15) then (if (ji15) < ((rd_L3 l1 x5_2).length : Int) then (if (rd (rd_L3 l1 x5_2) x6_3) ≤ (rd (rd_L3 l1 x5_2) (ji15)) then (some false) else (mosaicref12_May.l1 k3 a0 l1 x5_2 (wrap64 (x6_3 + 1)))) else (none)) else (none)) = some r := by first | (rw [hji15] at H; exact H) | (simp only [hji15] at H ⊢; exact H)
                have hji15w : (IntKind.i64.wrap (x6_3 - 1)) = ji15 := (i64_w _).trans hji15
                by_cases c16 : 0 ≤ (ji15)
                ·
                 rw [if_pos c16] at H
                 have c16b0 : decide (0 ≤ (ji15)) = true := decide_eq_true c16
                 clear c16
                 by_cases c17 : (ji15) < ((rd_L3 l1 x5_2).length : Int)
                 ·
                  rw [if_pos c17] at H
                  have c17b0 : decide ((ji15) < ((rd_L3 l1 x5_2).length : Int)) = true := decide_eq_true c17
                  clear c17
                  by_cases c18 : (rd (rd_L3 l1 x5_2) x6_3) ≤ (rd (rd_L3 l1 x5_2) (ji15))
                  ·
                   rw [if_pos c18] at H
                   have c18b0 : decide ((rd (rd_L3 l1 x5_2) x6_3) ≤ (rd (rd_L3 l1 x5_2) (ji15))) = true := decide_eq_true c18
                   clear c18
                   obtain rfl := Option.some.inj H
                   have p176 : 0 ≤ (x5_2 : Int) := of_decide_eq_true (by first | (with_reducible assumption) | assumption)
                   have q176 : x5_2 < (l1.length : Int) := of_decide_eq_true (by first | (with_reducible assumption) | assumption)
                   obtain ⟨ad176, A176_0, c176_0, e176, hx176_0, hl176_0, hi176_0⟩ := at_L3 HR1.out x5_2 p176 q176
                   cases e176
                   have HR176_0 := Aside0.mk hi176_0
                   have HC176_0 := Aside0.mk hl176_0
                   clear hi176_0 hl176_0
                   replace p176 := eq_true p176
                   replace q176 := eq_true q176
                   have p177 : 0 ≤ (x5_2 : Int) := of_decide_eq_true (by first | (with_reducible assumption) | assumption)
                   have q177 : x5_2 < (l1.length : Int) := of_decide_eq_true (by first | (with_reducible assumption) | assumption)
                   obtain ⟨ad177, A177_0, c177_0, e177, hx177_0, hl177_0, hi177_0⟩ := at_L3 HR1.out x5_2 p177 q177
                   obtain rfl : ad176 = ad177 := (by injection e177)
                   have HR177_0 := Aside0.mk hi177_0
                   have HC177_0 := Aside0.mk hl177_0
                   clear hi177_0 hl177_0
                   replace p177 := eq_true p177
                   replace q177 := eq_true q177
                   have ea_ := Option.some.inj (hx176_0.symm.trans hx177_0)
                   injection ea_ with ea_ en_ ec_
                   subst ea_
                   subst ec_
                   clear en_
                   have p178 : 0 ≤ (x6_3 : Int) := of_decide_eq_true (by first | (with_reducible assumption) | assumption)
                   have q178 : x6_3 < ((rd_L3 l1 x5_2).length : Int) := of_decide_eq_true (by first | (with_reducible assumption) | assumption)
                   obtain ⟨ad178, e178, hx178_0⟩ := Kd.at_int HR177_0.out x6_3 p178 q178
                   cases e178
                   replace p178 := eq_true p178
                   replace q178 := eq_true q178
                   have p179 : 0 ≤ (x5_2 : Int) := of_decide_eq_true (by first | (with_reducible assumption) | assumption)
                   have q179 : x5_2 < (l1.length : Int) := of_decide_eq_true (by first | (with_reducible assumption) | assumption)
                   obtain ⟨ad179, A179_0, c179_0, e179, hx179_0, hl179_0, hi179_0⟩ := at_L3 HR1.out x5_2 p179 q179
                   obtain rfl : ad176 = ad179 := (by injection e179)
                   have HR179_0 := Aside0.mk hi179_0
                   have HC179_0 := Aside0.mk hl179_0
                   clear hi179_0 hl179_0
                   replace p179 := eq_true p179
                   replace q179 := eq_true q179
                   have ea_ := Option.some.inj (hx176_0.symm.trans hx179_0)
                   injection ea_ with ea_ en_ ec_
                   subst ea_
                   subst ec_
                   clear en_
                   have p180 : 0 ≤ ((ji15) : Int) := of_decide_eq_true (by first | (with_reducible assumption) | assumption)
                   have q180 : (ji15) < ((rd_L3 l1 x5_2).length : Int) := of_decide_eq_true (by first | (with_reducible assumption) | assumption)
                   obtain ⟨ad180, e180, hx180_0⟩ := Kd.at_int HR179_0.out (ji15) p180 q180
                   cases e180
                   replace p180 := eq_true p180
                   replace q180 := eq_true q180
                   go_wp2
                   go_ret
                   exact ⟨by first | rfl | (simp; done) | (simp only [← hji15] <;> (first | rfl | simp)) | (simp [*]; done), by repeat (first | exact Drawn0.refl _ | apply Drawn0.step)⟩
                  ·
                   rw [if_neg c18] at H
                   have c18b0 : decide ((rd (rd_L3 l1 x5_2) x6_3) ≤ (rd (rd_L3 l1 x5_2) (ji15))) = false := decide_eq_false c18
                   clear c18
                   have H' := Aside0.mk H
                   clear H
                   have p176 : 0 ≤ (x5_2 : Int) := of_decide_eq_true (by first | (with_reducible assumption) | assumption)
                   have q176 : x5_2 < (l1.length : Int) := of_decide_eq_true (by first | (with_reducible assumption) | assumption)
                   obtain ⟨ad176, A176_0, c176_0, e176, hx176_0, hl176_0, hi176_0⟩ := at_L3 HR1.out x5_2 p176 q176
                   cases e176
                   have HR176_0 := Aside0.mk hi176_0
                   have HC176_0 := Aside0.mk hl176_0
                   clear hi176_0 hl176_0
                   replace p176 := eq_true p176
                   replace q176 := eq_true q176
                   have p177 : 0 ≤ (x5_2 : Int) := of_decide_eq_true (by first | (with_reducible assumption) | assumption)
                   have q177 : x5_2 < (l1.length : Int) := of_decide_eq_true (by first | (with_reducible assumption) | assumption)
                   obtain ⟨ad177, A177_0, c177_0, e177, hx177_0, hl177_0, hi177_0⟩ := at_L3 HR1.out x5_2 p177 q177
                   obtain rfl : ad176 = ad177 := (by injection e177)
                   have HR177_0 := Aside0.mk hi177_0
                   have HC177_0 := Aside0.mk hl177_0
                   clear hi177_0 hl177_0
                   replace p177 := eq_true p177
                   replace q177 := eq_true q177
                   have ea_ := Option.some.inj (hx176_0.symm.trans hx177_0)
                   injection ea_ with ea_ en_ ec_
                   subst ea_
                   subst ec_
                   clear en_
                   have p178 : 0 ≤ (x6_3 : Int) := of_decide_eq_true (by first | (with_reducible assumption) | assumption)
                   have q178 : x6_3 < ((rd_L3 l1 x5_2).length : Int) := of_decide_eq_true (by first | (with_reducible assumption) | assumption)
                   obtain ⟨ad178, e178, hx178_0⟩ := Kd.at_int HR177_0.out x6_3 p178 q178
                   cases e178
                   replace p178 := eq_true p178
                   replace q178 := eq_true q178
                   have p179 : 0 ≤ (x5_2 : Int) := of_decide_eq_true (by first | (with_reducible assumption) | assumption)
                   have q179 : x5_2 < (l1.length : Int) := of_decide_eq_true (by first | (with_reducible assumption) | assumption)
                   obtain ⟨ad179, A179_0, c179_0, e179, hx179_0, hl179_0, hi179_0⟩ := at_L3 HR1.out x5_2 p179 q179
                   obtain rfl : ad176 = ad179 := (by injection e179)
                   have HR179_0 := Aside0.mk hi179_0
                   have HC179_0 := Aside0.mk hl179_0
                   clear hi179_0 hl179_0
                   replace p179 := eq_true p179
                   replace q179 := eq_true q179
                   have ea_ := Option.some.inj (hx176_0.symm.trans hx179_0)
                   injection ea_ with ea_ en_ ec_
                   subst ea_
                   subst ec_
                   clear en_
                   have p180 : 0 ≤ ((ji15) : Int) := of_decide_eq_true (by first | (with_reducible assumption) | assumption)
                   have q180 : (ji15) < ((rd_L3 l1 x5_2).length : Int) := of_decide_eq_true (by first | (with_reducible assumption) | assumption)
                   obtain ⟨ad180, e180, hx180_0⟩ := Kd.at_int HR179_0.out (ji15) p180 q180
                   cases e180
                   replace p180 := eq_true p180
                   replace q180 := eq_true q180
                   go_wp2
                   go_roundg k3
                   case measure => have := HJ2.out; have := HK2.out; have := HK3.out; omega
                   case rel => exact ⟨(wrap64 (x6_3 + 1)), (by first | rfl | (simp; done) | (simp [*]; done)), H', ⟨by have := HJ2.out; have := HK2.out; have := HK3.out; omega⟩, by repeat (first | exact Drawn0.refl _ | apply Drawn0.step)⟩
                 ·
                  rw [if_neg c17] at H
                  exact absurd H (by simp)
                ·
                 rw [if_neg c16] at H
                 exact absurd H (by simp)
               ·
                rw [if_neg c14] at H
                have c14b0 : decide (0 < x6_3) = false := decide_eq_false c14
                clear c14
                have H' := Aside0.mk H
                clear H
                have p176 : 0 ≤ (x5_2 : Int) := of_decide_eq_true (by first | (with_reducible assumption) | assumption)
                have q176 : x5_2 < (l1.length : Int) := of_decide_eq_true (by first | (with_reducible assumption) | assumption)
                obtain ⟨ad176, A176_0, c176_0, e176, hx176_0, hl176_0, hi176_0⟩ := at_L3 HR1.out x5_2 p176 q176
                cases e176
                have HR176_0 := Aside0.mk hi176_0
                have HC176_0 := Aside0.mk hl176_0
                clear hi176_0 hl176_0
                replace p176 := eq_true p176
                replace q176 := eq_true q176
                have p177 : 0 ≤ (x5_2 : Int) := of_decide_eq_true (by first | (with_reducible assumption) | assumption)
                have q177 : x5_2 < (l1.length : Int) := of_decide_eq_true (by first | (with_reducible assumption) | assumption)
                obtain ⟨ad177, A177_0, c177_0, e177, hx177_0, hl177_0, hi177_0⟩ := at_L3 HR1.out x5_2 p177 q177
                obtain rfl : ad176 = ad177 := (by injection e177)
                have HR177_0 := Aside0.mk hi177_0
                have HC177_0 := Aside0.mk hl177_0
                clear hi177_0 hl177_0
                replace p177 := eq_true p177
                replace q177 := eq_true q177
                have ea_ := Option.some.inj (hx176_0.symm.trans hx177_0)
                injection ea_ with ea_ en_ ec_
                subst ea_
                subst ec_
                clear en_
                have p178 : 0 ≤ (x6_3 : Int) := of_decide_eq_true (by first | (with_reducible assumption) | assumption)
                have q178 : x6_3 < ((rd_L3 l1 x5_2).length : Int) := of_decide_eq_true (by first | (with_reducible assumption) | assumption)
                obtain ⟨ad178, e178, hx178_0⟩ := Kd.at_int HR177_0.out x6_3 p178 q178
                cases e178
                replace p178 := eq_true p178
                replace q178 := eq_true q178
                go_wp2
                go_roundg k3
                case measure => have := HJ2.out; have := HK2.out; have := HK3.out; omega
                case rel => exact ⟨(wrap64 (x6_3 + 1)), (by first | rfl | (simp; done) | (simp [*]; done)), H', ⟨by have := HJ2.out; have := HK2.out; have := HK3.out; omega⟩, by repeat (first | exact Drawn0.refl _ | apply Drawn0.step)⟩
            ·
             rw [if_neg c11] at H
             exact absurd H (by simp)
           ·
            rw [if_neg c10] at H
            have c10b0 : decide (x6_3 < ((rd_L3 l1 x5_2).length : Int)) = false := decide_eq_false c10
            clear c10
            have H' := Aside0.mk H
            clear H
            have p176 : 0 ≤ (x5_2 : Int) := of_decide_eq_true (by first | (with_reducible assumption) | assumption)
            have q176 : x5_2 < (l1.length : Int) := of_decide_eq_true (by first | (with_reducible assumption) | assumption)
            obtain ⟨ad176, A176_0, c176_0, e176, hx176_0, hl176_0, hi176_0⟩ := at_L3 HR1.out x5_2 p176 q176
            cases e176
            have HR176_0 := Aside0.mk hi176_0
            have HC176_0 := Aside0.mk hl176_0
            clear hi176_0 hl176_0
            replace p176 := eq_true p176
            replace q176 := eq_true q176
            go_wp2
            go_roundg k3
            case measure => have := HJ2.out; have := HK2.out; have := HK3.out; omega
            case rel => exact ⟨(wrap64 (x5_2 + 1)), (by first | rfl | (simp; done) | (simp [*]; done)), H', ⟨by have := HJ2.out; have := HK2.out; have := HK3.out; omega⟩, by repeat (first | exact Drawn0.refl _ | apply Drawn0.step)⟩
          ·
           rw [if_neg c9] at H
           exact absurd H (by simp)
         ·
          rw [if_neg c8] at H
          exact absurd H (by simp)
      ·
       rw [if_neg c7] at H
       have c7b0 : decide (x5_2 < (l1.length : Int)) = false := decide_eq_false c7
       clear c7
       obtain rfl := Option.some.inj H
       go_wp2
       go_ret
       exact ⟨by first | rfl | (simp; done) | (simp [*]; done), by repeat (first | exact Drawn0.refl _ | apply Drawn0.step)⟩

end Go.Proofs.Ytnchcapdfmccjaa.Print
/-! #### Pr63 -/
-- By the kit's print, called by a program of this session with functions that are proved by hand.
namespace Go.Proofs.Ytnchcapdfmccjaa.Print
open Go.RowKit Go.Proofs.YtnchcapdfmccjaaW.PrintWords Go.Proofs.YtnchcapdfmccjaaW.PrintLast Go.Proofs.YtnchcapdfmccjaaW.PrintMore
attribute [local go_sem] max2_int min2_int max_two min_two max_three min_three max_four min_four
set_option linter.unusedVariables false
set_option linter.unusedSimpArgs false

/-! ### mosaicref13_May: function 63 -/
def mosaicref13_May.f (k : Nat) (a0 : Int) (l1 : List (List Int)) (l2 : List Int) : Option (Bool) := (mosaicref12_May.f k a0 l1).bind fun t181 => (if t181 = true then ((mosaicref12_May.f k a0 (([l2] : List (List Int)))).bind fun t185 => (some t185)) else (some false))
theorem mosaicref13_May.mono : ∀ a0 a1 a2 k, LeO (mosaicref13_May.f k a0 a1 a2) (mosaicref13_May.f (k + 1) a0 a1 a2) := by
 intro a0 a1 a2 k
 unfold mosaicref13_May.f
 repeat' first
   | (with_reducible exact mosaicref12_May.mono _ _ _)
   | (with_reducible exact LeO.refl _)
   | (with_reducible exact LeO.none _)
   | (with_reducible refine LeO.ite ?_ ?_)
   | (with_reducible refine LeO.bind ?_ (fun _ => ?_))
   | exact mosaicref12_May.mono _ _ _
   | exact LeO.none _
   | refine LeO.ite ?_ ?_
   | refine LeO.bind ?_ (fun _ => ?_)
set_option maxHeartbeats 8000000 in
set_option maxRecDepth 100000 in
theorem mosaicref13_May.calls (k : Nat) (a0 : Int) (A1 : Option Addr) (c1 : Nat) (l1 : List (List Int)) (P2_ : Nat → Prop) (A2 : Option Addr) (c2 : Nat) (l2 : List Int) (r : Bool) (w : World) (hr1 : Kd.C (Kd.slice 3 (Kd.int .i64)) w A1 l1.length l1) (hc1 : l1.length ≤ c1) (hs2 : Kd.V (Kd.int .i64) 3 w w.heap.size (fun k_ => P2_ k_) (.slice A2 l2.length c2) l2) (h : mosaicref13_May.f k a0 l1 l2 = some r) :
  Calls Try.prog 63 #[.int .i64 a0, .slice A1 l1.length c1, .slice A2 l2.length c2] w fun e w' => e = .returned (.bool r) ∧ Below w.heap.size w w' := by
 have HR1 := Aside0.mk hr1
 have HC1 := Aside0.mk hc1
 clear hr1 hc1
 have HO2 := Aside0.mk (show Kd.V (Kd.int .i64) 3 w w.heap.size (fun k_ => (P2_ k_ ∨ w.heap.size ≤ k_)) (.slice A2 l2.length c2) l2 from Kd.V_mono hs2 (fun k_ hk => .inl hk))
 have HB := Aside0.mk (Below.refl w.heap.size w)
 have H : ((mosaicref12_May.f k a0 l1).bind fun t181 => (if t181 = true then ((mosaicref12_May.f k a0 (([l2] : List (List Int)))).bind fun t185 => (some t185)) else (some false))) = some r := h
 clear h
 replace H := Option.bind_eq_some_iff.mp H
 obtain ⟨t181, A40, H⟩ := H
 replace H : (if t181 = true then ((mosaicref12_May.f k a0 (([l2] : List (List Int)))).bind fun t185 => (some t185)) else (some false)) = some r := H
 have A4 := Aside0.mk A40
 clear A40
 by_cases c5 : t181 = true
 ·
  subst c5
  have H1 : ((mosaicref12_May.f k a0 (([l2] : List (List Int)))).bind fun t185 => (some t185)) = some r := by rw [if_pos rfl] at H; exact H
  clear H
  have H := H1
  clear H1
  obtain ⟨y182, hy182⟩ : ∃ y_ : List (List Int), y_ = (([l2] : List (List Int))) := ⟨_, rfl⟩
  replace H : ((mosaicref12_May.f k a0 y182).bind fun t185 => (some t185)) = some r := by first | (rw [hy182]; with_reducible exact H) | (have H2_ := (Option.bind_some _ _).symm.trans H; rw [hy182]; with_reducible exact H2_) | (have H2_ := (Option.bind_some _ _).symm.trans H; with_reducible exact H2_) | with_reducible exact H | (rw [hy182]; exact H) | exact H
  have Ny182 := Aside0.mk hy182
  clear hy182
  replace H := Option.bind_eq_some_iff.mp H
  obtain ⟨t185, A60, H⟩ := H
  replace H : (some t185) = some r := H
  have A6 := Aside0.mk A60
  clear A60
  obtain rfl := Option.some.inj H
  go_enter Try.func63, Try.ntmps63
  go_wp2_with (first | ((with_reducible refine gate_callee (f := 35) rfl ?_); refine goesL_ (some 9) rfl rfl Try.func35 (by kernel_rfl) rfl #[.int .i64 a0, .slice A1 l1.length c1] rfl (by (try simp only [List.map_toArray, List.map_cons, List.map_nil]); first | done | rfl | (simp only [List.length_drop, List.length_take]; rfl)) ?_; (with_reducible refine (mosaicref12_May.calls k a0 _ _ l1 true _ ?side1 ?side2 A4.out).mono ?_); (case side1 => repeat (first | exact HR1.out | (with_reducible refine Kd.C_alloc ?_ _) | (with_reducible refine Kd.C_drewN ?_ _) | (with_reducible refine Kd.C_drew ?_))); (case side2 => exact HC1.out); rintro e w' ⟨rfl, ⟨nd, rfl⟩⟩; refine ⟨_, rfl, ?_⟩) | ((with_reducible refine gate_dst (N := 13) rfl ?_); (try (refine gate_guard (by rfl) ?_; dsimp only)); refine Kd.N_lit (Kd.slice 3 (Kd.int .i64)) _ 23 ?hg (N' := 13) ?hd (xs := ([l2] : List (List Int))) (inner := [.slice A2 l2.length c2]) (ok := (fun k_ => (P2_ k_ ∨ w.heap.size ≤ k_))) (okp := (fun k_ => (P2_ k_ ∨ w.heap.size ≤ k_))) ?hr ?hp (fun _ hk => hk) ((show ∀ k_, w.heap.size ≤ k_ → (fun k_ => (P2_ k_ ∨ w.heap.size ≤ k_)) k_ from fun k_ hk => (.inr (Nat.le_trans (below_size (by repeat (first | (with_reducible first | exact HB.out | apply below_alloc | apply pw_below_drewN | apply below_drew1) | exact HB.out))) hk))) _ (Nat.le_refl _)) (Below.refl _ _) (Nat.le_refl _) (by simp) ?_; (case hd => rfl); (case hg => rfl); (case hr => first | (go_simp; done) | (go_simp; rfl)); (case hp => exact (Reps.one (show Kd.FK (Kd.slice 3 (Kd.int .i64)) _ _ l2 [.slice A2 l2.length c2] from (Kd.FK_slice_mk (Kd.V_reads' (Kd.V_mono (ok' := (fun k_ => (P2_ k_ ∨ w.heap.size ≤ k_))) (HO2.out) (fun k_ hk => hk))).2.1 (Kd.V_F (Kd.V_mono (ok' := (fun k_ => (P2_ k_ ∨ w.heap.size ≤ k_))) (by (with_reducible repeat (first | apply Kd.V_alloc | apply Kd.V_drewN | apply Kd.V_drew)); exact HO2.out) (fun k_ hk => hk))))) (Reps.none _ _))); intro v183 w7 ho8 hb hg_ hnew_; clear hg_ hnew_; (first | rw [← Ny182.out] at ho8 | (simp only [Int.reduceToNat] at ho8; rw [← Ny182.out] at ho8)); have n0_ := Aside0.mk (Kd.V_elder' (by (with_reducible repeat (first | apply Kd.V_alloc | apply Kd.V_drewN | apply Kd.V_drew)); exact HO2.out) (Kd.N_base ho8) hb); have n1_ := Aside0.mk (Kd.N_lower ho8 (below_size (by repeat (first | (with_reducible first | exact HB.out | apply below_alloc | apply pw_below_drewN | apply below_drew1) | exact HB.out)))); have n2_ := Aside0.mk (below_step (by repeat (first | (with_reducible first | exact HB.out | apply below_alloc | apply pw_below_drewN | apply below_drew1) | exact HB.out)) hb); clear HO2; clear HB; have HO2 := n0_; have HO184 := n1_; have HB := n2_; clear n0_ n1_ n2_; clear hb ho8; obtain ⟨Ao9, co9, eo9⟩ := Kd.N_slice HO184.out; subst eo9) | (go_at_call 35; (with_reducible refine (mosaicref12_May.calls k a0 _ _ y182 t185 _ ?side1 ?side2 A6.out).mono ?_); (case side1 => repeat (first | exact (Kd.N_reads' HO184.out).2.2 | (with_reducible refine Kd.C_alloc ?_ _) | (with_reducible refine Kd.C_drewN ?_ _) | (with_reducible refine Kd.C_drew ?_))); (case side2 => exact (Kd.N_reads' HO184.out).2.1); rintro e w' ⟨rfl, ⟨nd, rfl⟩⟩))
  go_ret
  exact ⟨by first | rfl | (simp [errW_none, errW_some] <;> rfl) | (simp [*, errW_none, errW_some] <;> rfl), by repeat (first | (with_reducible first | exact HB.out | apply below_alloc | apply pw_below_drewN | apply below_drew1) | exact HB.out)⟩
 ·
  replace c5 := Bool.eq_false_iff.mpr c5
  subst c5
  have H1 : (some false) = some r := by rw [if_neg (show ¬ (false = true) by decide)] at H; exact H
  clear H
  have H := H1
  clear H1
  obtain rfl := Option.some.inj H
  go_enter Try.func63, Try.ntmps63
  go_wp2_with (first | ((with_reducible refine gate_callee (f := 35) rfl ?_); refine goesL_ (some 9) rfl rfl Try.func35 (by kernel_rfl) rfl #[.int .i64 a0, .slice A1 l1.length c1] rfl (by (try simp only [List.map_toArray, List.map_cons, List.map_nil]); first | done | rfl | (simp only [List.length_drop, List.length_take]; rfl)) ?_; (with_reducible refine (mosaicref12_May.calls k a0 _ _ l1 false _ ?side1 ?side2 A4.out).mono ?_); (case side1 => repeat (first | exact HR1.out | (with_reducible refine Kd.C_alloc ?_ _) | (with_reducible refine Kd.C_drewN ?_ _) | (with_reducible refine Kd.C_drew ?_))); (case side2 => exact HC1.out); rintro e w' ⟨rfl, ⟨nd, rfl⟩⟩; refine ⟨_, rfl, ?_⟩))
  go_ret
  exact ⟨by first | rfl | (simp [errW_none, errW_some] <;> rfl) | (simp [*, errW_none, errW_some] <;> rfl), by repeat (first | (with_reducible first | exact HB.out | apply below_alloc | apply pw_below_drewN | apply below_drew1) | exact HB.out)⟩

end Go.Proofs.Ytnchcapdfmccjaa.Print
/-! #### PureW -/
/- Words for pure statements: rounds that suffice (Ev), tests, numbers, lists. -/
namespace Go.Proofs.YtnchcapdfmccjaaW.PrintWords
theorem Ev.pos {α : Type} {c : Prop} [Decidable c] {f g : Nat → Option α} {r : α} (h : c) (k : Ev f r) : Ev (fun n => if c then f n else g n) r := by
  simpa only [if_pos h] using k
theorem Ev.neg {α : Type} {c : Prop} [Decidable c] {f g : Nat → Option α} {r : α} (h : ¬ c) (k : Ev g r) : Ev (fun n => if c then f n else g n) r := by
  simpa only [if_neg h] using k
theorem Ev.some_ {α : Type} {a r : α} (h : a = r) : Ev (fun _ => some a) r := h ▸ Ev.now a
theorem Ev.some_bind {α β : Type} {a : α} {f : Nat → α → Option β} {r : β} (k : Ev (fun n => f n a) r) : Ev (fun n => (some a).bind (f n)) r := k
theorem Ev.to {α : Type} {g : Nat → Option α} {r r' : α} (h : Ev g r) (e : r = r') : Ev g r' := e ▸ h
/-- A call that has no rounds. -/
theorem Ev.call {α β : Type} {o : Option α} {a : α} {f : Nat → α → Option β} {r : β} (h : o = some a) (k : Ev (fun n => f n a) r) : Ev (fun n => o.bind (f n)) r := by
  subst h
  exact k
theorem Ev.const {α : Type} {o : Option α} {r : α} (h : o = some r) : Ev (fun _ => o) r := ⟨0, fun _ _ => h⟩

theorem Ev.succ {α : Type} {g : Nat → Option α} {r : α} (k : Ev (fun n => g (n + 1)) r) : Ev g r := Ev.step (fun _ => rfl) k

end Go.Proofs.YtnchcapdfmccjaaW.PrintWords
namespace Go.Proofs.Ytnchcapdfmccjaa.Pure
open Go.RowKit Go.Proofs.YtnchcapdfmccjaaW.PrintWords
set_option linter.unusedVariables false

theorem wrap_of {x : Int} (h0 : -9223372036854775808 ≤ x) (h1 : x ≤ 9223372036854775807) : wrap64 x = x := by unfold wrap64; omega
theorem wrap_succ (i : Nat) (h : i < 9223372036854775807) : wrap64 ((i : Int) + 1) = ((i + 1 : Nat) : Int) := by unfold wrap64; omega
theorem maxLen_eq : maxLen = 9223372036854775807 := rfl
theorem wf64 {x : Int} (h : (Lit.int .i64 x).wf = true) : -9223372036854775808 ≤ x ∧ x ≤ 9223372036854775807 := by
  simp only [Lit.wf, Bool.and_eq_true, decide_eq_true_eq] at h
  exact h
theorem rd_nat (l : List Int) (i : Nat) : rd l (i : Int) = l.getD i 0 := by simp [rd]
theorem rd_lt (l : List Int) (i : Nat) (h : i < l.length) : rd l (i : Int) = l[i] := by simp [rd, List.getD_eq_getElem?_getD, h]
theorem rdOf_lt {α : Type} (d : α) (l : List α) (i : Nat) (h : i < l.length) : rdOf d l (i : Int) = l[i] := by simp [rdOf, List.getD_eq_getElem?_getD, h]
end Go.Proofs.Ytnchcapdfmccjaa.Pure
/-! #### PurePeel -/
/- What the functions of peel and of its reference come to, in plain words: rows' rests, the steps, what is known behind them. -/
namespace Go.Proofs.Ytnchcapdfmccjaa.Pure
open Go.RowKit Go.Proofs.Ytnchcapdfmccjaa.Print Go.Proofs.YtnchcapdfmccjaaW.PrintWords Go.Proofs.YtnchcapdfmccjaaW.PrintLast
set_option linter.unusedVariables false
set_option linter.unusedSimpArgs false

/-! ### the references' small words -/
theorem has_l0 (l : List Int) (a : Int) (hl : l.length ≤ 9223372036854775807) (d : Nat) : ∀ i : Nat, l.length - i = d → i ≤ l.length → Ev (fun k => mosaicref09_Has.l0 k l a (i : Int)) (decide (a ∈ l.drop i)) := by
  induction d with
  | zero =>
    intro i hd hi
    refine Ev.succ ?_
    simp only [mosaicref09_Has.l0]
    refine Ev.neg (by omega) (Ev.some_ ?_)
    rw [List.drop_of_length_le (by omega)]
    simp
  | succ d ih =>
    intro i hd hi
    have hlt : i < l.length := by omega
    refine Ev.succ ?_
    simp only [mosaicref09_Has.l0]
    refine Ev.pos (by omega) (Ev.pos (by omega) ?_)
    rw [rd_lt l i hlt, List.drop_eq_getElem_cons hlt, wrap_succ i (by omega)]
    by_cases h : l[i] = a
    · exact Ev.pos h (Ev.some_ (by simp [h]))
    · refine Ev.neg h ((ih (i + 1) (by omega) (by omega)).to ?_)
      rw [decide_eq_decide, List.mem_cons]
      exact ⟨Or.inr, fun e => e.resolve_left (Ne.symm h)⟩
theorem has_ev (l : List Int) (a : Int) (hl : l.length ≤ 9223372036854775807) : Ev (fun k => mosaicref09_Has.f k l a) (decide (a ∈ l)) := by
  have := has_l0 l a hl l.length 0 (by omega) (by omega)
  simpa [mosaicref09_Has.f] using this

theorem same_l0 (a b : List Int) (hl : a.length ≤ 9223372036854775807) (he : a.length = b.length) (d : Nat) : ∀ i : Nat, a.length - i = d → i ≤ a.length → Ev (fun k => mosaicref04_Same.l0 k a b (i : Int)) (decide (a.drop i = b.drop i)) := by
  induction d with
  | zero =>
    intro i hd hi
    refine Ev.succ ?_
    simp only [mosaicref04_Same.l0]
    refine Ev.neg (by omega) (Ev.some_ ?_)
    rw [List.drop_of_length_le (by omega), List.drop_of_length_le (by omega)]
    simp
  | succ d ih =>
    intro i hd hi
    have hlt : i < a.length := by omega
    refine Ev.succ ?_
    simp only [mosaicref04_Same.l0]
    refine Ev.pos (by omega) (Ev.pos (by omega) (Ev.pos (by omega) ?_))
    rw [rd_lt a i hlt, rd_lt b i (by omega), List.drop_eq_getElem_cons hlt, List.drop_eq_getElem_cons (show i < b.length by omega), wrap_succ i (by omega)]
    by_cases h : a[i] = b[i]'(by omega)
    · refine Ev.pos h ((ih (i + 1) (by omega) (by omega)).to ?_)
      rw [decide_eq_decide, List.cons.injEq]
      exact ⟨fun e => ⟨h, e⟩, fun e => e.2⟩
    · refine Ev.neg h (Ev.some_ ?_)
      exact (decide_eq_false fun e => h (List.cons.inj e).1).symm
theorem same_ev (a b : List Int) (hl : a.length ≤ 9223372036854775807) : Ev (fun k => mosaicref04_Same.f k a b) (decide (a = b)) := by
  unfold mosaicref04_Same.f
  by_cases he : a.length = b.length
  · refine Ev.pos (by omega) ?_
    have := same_l0 a b hl he a.length 0 (by omega) (by omega)
    simpa using this
  · refine Ev.neg (by omega) (Ev.some_ ?_)
    have : a ≠ b := fun h => he (by rw [h])
    simp [this]

def fewB (n : Int) (rows : List (List Int)) : Bool := decide (n ≤ 60) && (decide (rows.length ≤ 40) && rows.all fun r => decide (r.length ≤ 80))
theorem few_l0 (rows : List (List Int)) (hl : rows.length ≤ 40) (d : Nat) : ∀ i : Nat, rows.length - i = d → i ≤ rows.length → Ev (fun k => mosaiclaw12_Few.l0 k rows (i : Int)) ((rows.drop i).all fun r => decide (r.length ≤ 80)) := by
  induction d with
  | zero =>
    intro i hd hi
    refine Ev.succ ?_
    simp only [mosaiclaw12_Few.l0]
    refine Ev.neg (by omega) (Ev.some_ ?_)
    rw [List.drop_of_length_le (by omega)]
    rfl
  | succ d ih =>
    intro i hd hi
    have hlt : i < rows.length := by omega
    refine Ev.succ ?_
    simp only [mosaiclaw12_Few.l0]
    refine Ev.pos (by omega) (Ev.pos (by omega) ?_)
    have hr : rd_L3 rows (i : Int) = rows[i] := by simp [rd_L3, List.getD_eq_getElem?_getD, hlt]
    rw [hr, List.drop_eq_getElem_cons hlt, wrap_succ i (by omega)]
    by_cases h : (rows[i].length : Int) > 80
    · refine Ev.pos h (Ev.some_ ?_)
      rw [List.all_cons, decide_eq_false (by omega)]
      rfl
    · refine Ev.neg h ((ih (i + 1) (by omega) (by omega)).to ?_)
      rw [List.all_cons, decide_eq_true (by omega)]
      rfl
theorem Few_ev (n : Int) (rows : List (List Int)) : Ev (fun k => mosaiclaw12_Few.f k n rows) (fewB n rows) := by
  unfold mosaiclaw12_Few.f fewB
  by_cases h1 : n > 60
  · refine Ev.pos h1 (Ev.succ ?_)
    simp only [mosaiclaw12_Few.j0]
    refine Ev.pos (by trivial) (Ev.some_ ?_)
    have : ¬ n ≤ 60 := by omega
    simp [this]
  · refine Ev.neg h1 (Ev.succ ?_)
    simp only [mosaiclaw12_Few.j0]
    have h1' : n ≤ 60 := by omega
    by_cases h2 : (rows.length : Int) > 40
    · refine Ev.pos (by simpa using h2) (Ev.some_ ?_)
      have : ¬ rows.length ≤ 40 := by omega
      simp [this]
    · refine Ev.neg (by simpa using h2) ?_
      have h2' : rows.length ≤ 40 := by omega
      have := few_l0 rows h2' rows.length 0 (by omega) (by omega)
      simpa [h1', h2'] using this
theorem few_ev (n : Int) (rows : List (List Int)) (known : List Int) : Ev (fun k => mosaiclaw13_few.f k n rows known) (fewB n rows && fewB n [known]) := by
  unfold mosaiclaw13_few.f
  refine Ev.bind (Few_ev n rows) ?_
  cases h : fewB n rows with
  | true => exact Ev.pos rfl (Ev.bind (Few_ev n [known]) (Ev.some_ rfl))
  | false => exact Ev.neg (by simp) (Ev.some_ rfl)

/-! ### May -/
theorem may12_l1 (n : Int) (rows : List (List Int)) (i : Nat) (hi : i < rows.length) (hl : rows[i].length ≤ 9223372036854775807) (hb : rows.length ≤ 400) (R : Bool)
    (next : Ev (fun k => mosaicref12_May.l0 k n rows ((i + 1 : Nat) : Int)) R) (d : Nat) : ∀ (j : Nat) (p : Int), rows[i].length - j = d → j ≤ rows[i].length → (j = 0 → p = -1) → (0 < j → p = rd rows[i] ((j : Int) - 1) ∧ 0 ≤ p) →
    Ev (fun k => mosaicref12_May.l1 k n rows (i : Int) (j : Int)) (mayFrom n p (rows[i].drop j) && R) := by
  have hr : rd_L3 rows (i : Int) = rows[i] := by simp [rd_L3, List.getD_eq_getElem?_getD, hi]
  induction d with
  | zero =>
    intro j p hd hj hp h0
    refine Ev.succ ?_
    simp only [mosaicref12_May.l1]
    rw [hr]
    refine Ev.pos (by omega) (Ev.pos (by omega) (Ev.neg (by omega) ?_))
    rw [wrap_succ i (by omega), List.drop_of_length_le (by omega)]
    simpa [mayFrom] using next
  | succ d ih =>
    intro j p hd hj hp h0
    have hlt : j < rows[i].length := by omega
    have hx : rd rows[i] (j : Int) = rows[i][j] := rd_lt _ j hlt
    have hp1 : -1 ≤ p := by
      rcases Nat.eq_zero_or_pos j with e | e
      · have := hp e
        omega
      · have := (h0 e).2
        omega
    refine Ev.succ ?_
    simp only [mosaicref12_May.l1]
    rw [hr]
    refine Ev.pos (by omega) (Ev.pos (by omega) (Ev.pos (by omega) (Ev.pos (by omega) ?_)))
    rw [List.drop_eq_getElem_cons hlt, hx]
    simp only [mayFrom]
    generalize hy : rows[i][j] = y at hx
    rw [wrap_succ j (by omega)]
    by_cases c1 : y < 0
    · refine Ev.pos c1 (Ev.some_ ?_)
      rw [decide_eq_false (by omega)]
      rfl
    refine Ev.neg c1 ?_
    by_cases c2 : y ≥ n
    · refine Ev.pos c2 (Ev.some_ ?_)
      rw [decide_eq_false (by omega)]
      rfl
    refine Ev.neg c2 ?_
    have go : Ev (fun k => mosaicref12_May.l1 k n rows (i : Int) ((j + 1 : Nat) : Int)) (mayFrom n y (rows[i].drop (j + 1)) && R) := by
      refine ih (j + 1) y (by omega) (by omega) (by omega) (fun _ => ⟨?_, by omega⟩)
      rw [show ((j + 1 : Nat) : Int) - 1 = (j : Int) by omega]
      exact hx.symm
    by_cases c3 : (j : Int) > 0
    · have hw1 : wrap64 ((j : Int) - 1) = (j : Int) - 1 := by unfold wrap64; omega
      obtain ⟨e1, e2⟩ := h0 (by omega)
      refine Ev.pos c3 ?_
      rw [hw1, ← e1]
      refine Ev.pos (by omega) (Ev.pos (by omega) ?_)
      by_cases c4 : y ≤ p
      · refine Ev.pos c4 (Ev.some_ ?_)
        rw [decide_eq_false (by omega)]
        rfl
      · refine Ev.neg c4 (go.to ?_)
        rw [decide_eq_true (show p < y ∧ y < n by omega)]
        rfl
    · have := hp (by omega)
      refine Ev.neg c3 (go.to ?_)
      rw [decide_eq_true (show p < y ∧ y < n by omega)]
      rfl
theorem may12_l0 (n : Int) (rows : List (List Int)) (hl : ∀ r ∈ rows, r.length ≤ 9223372036854775807) (hb : rows.length ≤ 400) (d : Nat) : ∀ i : Nat, rows.length - i = d → i ≤ rows.length → Ev (fun k => mosaicref12_May.l0 k n rows (i : Int)) ((rows.drop i).all (mayRowB n)) := by
  induction d with
  | zero =>
    intro i hd hi
    refine Ev.succ ?_
    simp only [mosaicref12_May.l0]
    refine Ev.neg (by omega) (Ev.some_ ?_)
    rw [List.drop_of_length_le (by omega)]
    rfl
  | succ d ih =>
    intro i hd hi
    have hlt : i < rows.length := by omega
    refine Ev.succ ?_
    simp only [mosaicref12_May.l0]
    refine Ev.pos (by omega) ?_
    rw [List.drop_eq_getElem_cons hlt]
    have := may12_l1 n rows i hlt (hl _ (List.getElem_mem hlt)) hb _ (ih (i + 1) (by omega) (by omega)) rows[i].length 0 (-1) (by omega) (by omega) (fun _ => rfl) (fun h => absurd h (by omega))
    have e : ((0 : Nat) : Int) = 0 := rfl
    rw [e] at this
    rw [List.all_cons]
    exact this
theorem May12_ev (n : Int) (rows : List (List Int)) (hl : ∀ r ∈ rows, r.length ≤ 9223372036854775807) : Ev (fun k => mosaicref12_May.f k n rows) (gauss_May.b n rows) := by
  unfold mosaicref12_May.f gauss_May.b
  by_cases h1 : n < 0
  · refine Ev.pos h1 (Ev.succ ?_)
    simp only [mosaicref12_May.j0]
    refine Ev.pos (by trivial) (Ev.some_ ?_)
    have : ¬ 0 ≤ n := by omega
    simp [this]
  refine Ev.neg h1 ?_
  have h1' : 0 ≤ n := by omega
  by_cases h2 : n > 160
  · refine Ev.pos h2 (Ev.succ ?_)
    simp only [mosaicref12_May.j0]
    refine Ev.pos (by trivial) (Ev.some_ ?_)
    have : ¬ n ≤ 160 := by omega
    simp [this]
  refine Ev.neg h2 (Ev.succ ?_)
  simp only [mosaicref12_May.j0]
  have h2' : n ≤ 160 := by omega
  by_cases h3 : (rows.length : Int) > 400
  · refine Ev.pos (by simpa using h3) (Ev.some_ ?_)
    have : ¬ rows.length ≤ 400 := by omega
    simp [this]
  · refine Ev.neg (by simpa using h3) ?_
    have h3' : rows.length ≤ 400 := by omega
    have := may12_l0 n rows hl h3' rows.length 0 (by omega) (by omega)
    simpa [h1', h2', h3'] using this
def mayP (n : Int) (rows : List (List Int)) (known : List Int) : Bool := gauss_May.b n rows && gauss_May.b n [known]
theorem may_eq (n : Int) (rows : List (List Int)) (known : List Int) : peel_may.f n rows known = some (mayP n rows known) := by
  unfold peel_may.f mayP gauss_May.f
  cases gauss_May.b n rows <;> simp
theorem May13_ev (n : Int) (rows : List (List Int)) (known : List Int) (hl : ∀ r ∈ rows, r.length ≤ 9223372036854775807) (hk : known.length ≤ 9223372036854775807) : Ev (fun k => mosaicref13_May.f k n rows known) (mayP n rows known) := by
  unfold mosaicref13_May.f mayP
  refine Ev.bind (May12_ev n rows hl) ?_
  cases h : gauss_May.b n rows with
  | true => exact Ev.pos rfl (Ev.bind (May12_ev n [known] (by simpa using hk)) (Ev.some_ rfl))
  | false => exact Ev.neg (by simp) (Ev.some_ rfl)
end Go.Proofs.Ytnchcapdfmccjaa.Pure
/-! #### PurePeel2 -/
/- Peeling, in plain words: the program's and the reference's. -/
namespace Go.Proofs.Ytnchcapdfmccjaa.Pure
open Go.RowKit Go.Proofs.Ytnchcapdfmccjaa.Print Go.Proofs.YtnchcapdfmccjaaW.PrintWords Go.Proofs.YtnchcapdfmccjaaW.PrintLast
set_option linter.unusedVariables false
set_option linter.unusedSimpArgs false

/-- Is a number marked? -/
def mk (m : List Bool) (i : Int) : Bool := m.getD i.toNat false
/-- A row's numbers that are not marked. -/
def restB (m : List Bool) (r : List Int) : List Int := r.filter fun i => !mk m i
/-- The last unmarked number; is it the only one? -/
def gapA : Int → List Int → Int × Bool
  | at_, [] => (at_, decide (at_ ≥ 0))
  | at_, x :: xs => if at_ ≥ 0 then (0, false) else gapA x xs
/-- All numbers of a row are below so many. -/
def inB (n : Nat) (r : List Int) : Prop := ∀ i ∈ r, 0 ≤ i ∧ i < (n : Int)

theorem rdOf_mk (m : List Bool) (i : Int) : rdOf false m i = mk m i := rfl
theorem gap_l0 (m : List Bool) (row : List Int) (hm : m.length ≤ 9223372036854775807) (hr : inB m.length row) (hl : row.length ≤ 9223372036854775807) (d : Nat) : ∀ (i : Nat) (at_ : Int), row.length - i = d → i ≤ row.length →
    Ev (fun k => peel_gap.l0 k m at_ row (row.length : Int) (i : Int)) (gapA at_ (restB m (row.drop i))) := by
  induction d with
  | zero =>
    intro i at_ hd hi
    refine Ev.succ ?_
    simp only [peel_gap.l0]
    refine Ev.neg (by omega) (Ev.some_ ?_)
    rw [List.drop_of_length_le (by omega)]
    rfl
  | succ d ih =>
    intro i at_ hd hi
    have hlt : i < row.length := by omega
    have hx := hr _ (List.getElem_mem hlt)
    refine Ev.succ ?_
    simp only [peel_gap.l0]
    rw [rd_lt row i hlt, List.drop_eq_getElem_cons hlt, wrap_succ i (by omega), rdOf_mk]
    refine Ev.pos (by omega) (Ev.pos (by omega) (Ev.pos (by omega) (Ev.pos (by omega) (Ev.pos (by omega) ?_))))
    unfold restB
    cases hk : mk m row[i] with
    | true =>
      refine Ev.pos rfl ((ih (i + 1) at_ (by omega) (by omega)).to ?_)
      rw [List.filter_cons_of_neg (by simp [hk])]
      rfl
    | false =>
      refine Ev.neg (by simp) ?_
      rw [List.filter_cons_of_pos (by simp [hk])]
      by_cases ha : at_ ≥ 0
      · exact Ev.pos ha (Ev.some_ (by simp [gapA, ha]))
      · refine Ev.neg ha ((ih (i + 1) row[i] (by omega) (by omega)).to ?_)
        simp [gapA, ha]
        rfl
def gapR (m : List Bool) (row : List Int) : Int × Bool := gapA (-1) (restB m row)
theorem gap_ev (m : List Bool) (row : List Int) (hm : m.length ≤ 9223372036854775807) (hr : inB m.length row) (hl : row.length ≤ 9223372036854775807) : Ev (fun k => peel_gap.f k row m) (gapR m row) := by
  have := gap_l0 m row hm hr hl row.length 0 (-1) (by omega) (by omega)
  simpa [peel_gap.f, gapR] using this
theorem gapA_one (l : List Int) (hl : ∀ i ∈ l, 0 ≤ i) : (gapA (-1) l).2 = decide (l.length = 1) ∧ ∀ i, l = [i] → gapA (-1) l = (i, true) := by
  match l with
  | [] => exact ⟨by simp [gapA], fun i h => by cases h⟩
  | [x] =>
    have hx := hl x (by simp)
    refine ⟨by simp [gapA, hx], fun i h => ?_⟩
    cases h
    simp [gapA, hx]
  | x :: y :: r =>
    have hx := hl x (by simp)
    refine ⟨by simp [gapA, hx], fun i h => by cases h⟩

/-! ### marks, numbers -/
def marksL (m : List Bool) (known : List Int) : List Bool := known.foldl (fun m i => m.set i.toNat true) m
theorem marksL_length : ∀ (known : List Int) (m : List Bool), (marksL m known).length = m.length
  | [], m => rfl
  | x :: xs, m => by
    show (marksL (m.set x.toNat true) xs).length = _
    rw [marksL_length xs, List.length_set]
def marksB (n : Int) (known : List Int) : List Bool := marksL (List.replicate n.toNat false) known
theorem marksB_length (n : Int) (known : List Int) : (marksB n known).length = n.toNat := by rw [marksB, marksL_length, List.length_replicate]
theorem marks_l0 (known : List Int) (n : Nat) (hn : n ≤ 160) (hk : inB n known) (hl : known.length ≤ 9223372036854775807) (d : Nat) : ∀ (i : Nat) (m : List Bool), known.length - i = d → i ≤ known.length → m.length = n →
    Ev (fun k => peel_marks.l0 k m known (known.length : Int) (i : Int)) (marksL m (known.drop i)) := by
  induction d with
  | zero =>
    intro i m hd hi hm
    refine Ev.succ ?_
    simp only [peel_marks.l0]
    refine Ev.neg (by omega) (Ev.some_ ?_)
    rw [List.drop_of_length_le (by omega)]
    rfl
  | succ d ih =>
    intro i m hd hi hm
    have hlt : i < known.length := by omega
    have hx := hk _ (List.getElem_mem hlt)
    refine Ev.succ ?_
    simp only [peel_marks.l0]
    rw [rd_lt known i hlt, List.drop_eq_getElem_cons hlt, wrap_succ i (by omega)]
    refine Ev.pos (by omega) (Ev.pos (by omega) (Ev.pos (by omega) (Ev.pos (by omega) (Ev.pos (by omega) ?_))))
    exact ih (i + 1) _ (by omega) (by omega) (by rw [List.length_set, hm])
theorem marks_ev (n : Int) (h0 : 0 ≤ n) (h1 : n ≤ 160) (known : List Int) (hk : inB n.toNat known) (hl : known.length ≤ 9223372036854775807) : Ev (fun k => peel_marks.f k n known) (marksB n known) := by
  unfold peel_marks.f
  refine Ev.pos h0 (Ev.pos (by omega) ?_)
  have := marks_l0 known n.toNat (by omega) hk hl known.length 0 (List.replicate n.toNat false) (by omega) (by omega) (by simp)
  simpa [marksB] using this
theorem mk_set (m : List Bool) (j : Int) (h0 : 0 ≤ j) (hj : j < (m.length : Int)) (i : Int) (hi : 0 ≤ i) : mk (m.set j.toNat true) i = (mk m i || decide (i = j)) := by
  unfold mk
  rw [List.getD_eq_getElem?_getD, List.getD_eq_getElem?_getD, List.getElem?_set]
  by_cases h : i = j
  · subst h
    rw [if_pos rfl, if_pos (by omega)]
    simp
  · rw [if_neg (by omega)]
    simp [h]
theorem mk_marksL : ∀ (known : List Int) (m : List Bool), inB m.length known → ∀ i : Int, 0 ≤ i → mk (marksL m known) i = (mk m i || decide (i ∈ known))
  | [], m, _, i, hi => by simp [marksL]
  | x :: xs, m, h, i, hi => by
    have hx := h x (by simp)
    show mk (marksL (m.set x.toNat true) xs) i = _
    rw [mk_marksL xs _ (fun y hy => by rw [List.length_set]; exact h y (by simp [hy])) i hi, mk_set m x hx.1 hx.2 i hi]
    by_cases h1 : i = x <;> simp [h1]
theorem mk_replicate (n : Nat) (i : Int) : mk (List.replicate n false) i = false := by
  unfold mk
  rw [List.getD_eq_getElem?_getD, List.getElem?_replicate]
  split <;> rfl
theorem mk_marksB (n : Int) (known : List Int) (hk : inB n.toNat known) (i : Int) (hi : 0 ≤ i) : mk (marksB n known) i = decide (i ∈ known) := by
  unfold marksB
  rw [mk_marksL known _ (by rw [List.length_replicate]; exact hk) i hi, mk_replicate]
  simp

/-- The numbers that are marked so, from i on. -/
def numsF (b : Bool) : List Bool → Nat → List Int
  | [], _ => []
  | x :: xs, i => if x = b then (i : Int) :: numsF b xs (i + 1) else numsF b xs (i + 1)
theorem numsF_length (b : Bool) : ∀ (m : List Bool) (i : Nat), (numsF b m i).length ≤ m.length
  | [], i => by simp [numsF]
  | x :: xs, i => by
    unfold numsF
    have := numsF_length b xs (i + 1)
    split <;> simp <;> omega
theorem numbers_l0 (m : List Bool) (b : Bool) (hm : m.length ≤ 160) (d : Nat) : ∀ (i : Nat) (acc : List Int), m.length - i = d → i ≤ m.length → acc.length ≤ i →
    Ev (fun k => peel_numbers.l0 k b acc m (m.length : Int) (i : Int)) (acc ++ numsF b (m.drop i) i) := by
  induction d with
  | zero =>
    intro i acc hd hi ha
    refine Ev.succ ?_
    simp only [peel_numbers.l0]
    refine Ev.neg (by omega) (Ev.some_ ?_)
    rw [List.drop_of_length_le (by omega)]
    simp [numsF]
  | succ d ih =>
    intro i acc hd hi ha
    have hlt : i < m.length := by omega
    refine Ev.succ ?_
    simp only [peel_numbers.l0]
    rw [rdOf_lt false m i hlt, List.drop_eq_getElem_cons hlt, wrap_succ i (by omega)]
    refine Ev.pos (by omega) (Ev.pos (by omega) (Ev.pos (by omega) ?_))
    unfold numsF
    by_cases h : m[i] = b
    · refine Ev.pos (by simp [h]) (Ev.pos (by omega) ((ih (i + 1) (acc ++ [(i : Int)]) (by omega) (by omega) (by simp; omega)).to ?_))
      simp [h]
    · refine Ev.neg (by simp [h]) ((ih (i + 1) acc (by omega) (by omega) (by omega)).to ?_)
      simp [h]
theorem numbers_ev (m : List Bool) (b : Bool) (hm : m.length ≤ 160) : Ev (fun k => peel_numbers.f k m b) (numsF b m 0) := by
  have := numbers_l0 m b hm m.length 0 [] (by omega) (by omega) (by simp)
  simpa [peel_numbers.f] using this
theorem mem_numsF (b : Bool) : ∀ (m : List Bool) (i : Nat) (x : Int), x ∈ numsF b m i ↔ ∃ j : Nat, x = ((i + j : Nat) : Int) ∧ m[j]? = some b
  | [], i, x => by simp [numsF]
  | y :: ys, i, x => by
    have ih := mem_numsF b ys (i + 1) x
    unfold numsF
    constructor
    · intro h
      by_cases hy : y = b
      · rw [if_pos hy] at h
        rcases List.mem_cons.1 h with h | h
        · exact ⟨0, by simpa using h, by simp [hy]⟩
        · obtain ⟨j, e, hj⟩ := ih.1 h
          exact ⟨j + 1, by rw [e]; congr 1; omega, by simpa using hj⟩
      · rw [if_neg hy] at h
        obtain ⟨j, e, hj⟩ := ih.1 h
        exact ⟨j + 1, by rw [e]; congr 1; omega, by simpa using hj⟩
    · rintro ⟨j, e, hj⟩
      cases j with
      | zero =>
        have hy : y = b := by simpa using hj
        rw [if_pos hy]
        simp [e]
      | succ j =>
        have h : x ∈ numsF b ys (i + 1) := ih.2 ⟨j, by rw [e]; congr 1; omega, by simpa using hj⟩
        by_cases hy : y = b
        · rw [if_pos hy]
          exact List.mem_cons_of_mem _ h
        · rw [if_neg hy]
          exact h
theorem mem_nums (m : List Bool) (x : Int) : x ∈ numsF true m 0 ↔ 0 ≤ x ∧ mk m x = true := by
  rw [mem_numsF]
  unfold mk
  constructor
  · rintro ⟨j, e, hj⟩
    subst e
    refine ⟨by omega, ?_⟩
    rw [List.getD_eq_getElem?_getD, show ((0 + j : Nat) : Int).toNat = j by omega, hj]
    rfl
  · rintro ⟨h0, h⟩
    refine ⟨x.toNat, by omega, ?_⟩
    rw [List.getD_eq_getElem?_getD] at h
    cases h2 : m[x.toNat]? with
    | none => rw [h2] at h; cases h
    | some b => rw [h2] at h; simp at h; rw [h]
theorem numsF_may (b : Bool) : ∀ (m : List Bool) (i : Nat) (n p : Int), p < (i : Int) → ((i + m.length : Nat) : Int) ≤ n → mayFrom n p (numsF b m i) = true
  | [], i, n, p, _, _ => rfl
  | y :: ys, i, n, p, hp, hn => by
    simp only [List.length_cons] at hn
    unfold numsF
    by_cases hy : y = b
    · rw [if_pos hy]
      simp only [mayFrom, Bool.and_eq_true, decide_eq_true_eq]
      exact ⟨by omega, numsF_may b ys (i + 1) n i (by omega) (by omega)⟩
    · rw [if_neg hy]
      exact numsF_may b ys (i + 1) n p (by omega) (by omega)

/-! ### the steps -/
/-- The first ripe row, and its number. -/
def firstRipe (m : List Bool) : List (List Int) → Nat → Option (Nat × Int)
  | [], _ => none
  | r :: rs, k => if (gapR m r).2 = true then some (k, (gapR m r).1) else firstRipe m rs (k + 1)
def runS (rows : List (List Int)) : Nat → List Bool → List (Nat × Int) × List Bool
  | 0, m => ([], m)
  | f + 1, m => match firstRipe m rows 0 with
    | none => ([], m)
    | some (k, i) => ((k, i) :: (runS rows f (m.set i.toNat true)).1, (runS rows f (m.set i.toNat true)).2)
def inR (n : Nat) (rows : List (List Int)) : Prop := ∀ r ∈ rows, inB n r
theorem rest_in {n : Nat} {m : List Bool} {r : List Int} (h : inB n r) : inB n (restB m r) := fun i hi => h i (List.mem_filter.1 hi).1
/-- What a ripe row tells: its only unmarked number. -/
theorem gap_ripe {m : List Bool} {r : List Int} (h : inB m.length r) (hg : (gapR m r).2 = true) : restB m r = [(gapR m r).1] ∧ 0 ≤ (gapR m r).1 ∧ (gapR m r).1 < (m.length : Int) ∧ mk m (gapR m r).1 = false := by
  have h1 := gapA_one (restB m r) (fun i hi => (rest_in h i hi).1)
  have hl : (restB m r).length = 1 := by
    have := h1.1
    unfold gapR at hg
    rw [hg] at this
    simpa using this.symm
  obtain ⟨i, hi⟩ := List.length_eq_one_iff.1 hl
  have he : gapR m r = (i, true) := h1.2 i hi
  rw [he]
  have hmem : i ∈ restB m r := by rw [hi]; simp
  have := rest_in h i hmem
  have hf := (List.mem_filter.1 hmem).2
  exact ⟨hi, this.1, this.2, by simpa using hf⟩
theorem firstRipe_some {m : List Bool} : ∀ (rows : List (List Int)) (k : Nat) {j : Nat} {i : Int}, firstRipe m rows k = some (j, i) → k ≤ j ∧ ∃ r, rows[j - k]? = some r ∧ (gapR m r).2 = true ∧ i = (gapR m r).1
  | [], k, j, i, h => by cases h
  | r :: rs, k, j, i, h => by
    unfold firstRipe at h
    by_cases hg : (gapR m r).2 = true
    · rw [if_pos hg] at h
      cases h
      exact ⟨Nat.le_refl _, r, by simp, hg, rfl⟩
    · rw [if_neg hg] at h
      obtain ⟨h1, r', h2, h3⟩ := firstRipe_some rs (k + 1) h
      refine ⟨by omega, r', ?_, h3⟩
      rw [show j - k = (j - (k + 1)) + 1 by omega]
      simpa using h2
theorem firstRipe_none {m : List Bool} : ∀ (rows : List (List Int)) (k : Nat), firstRipe m rows k = none → ∀ r ∈ rows, (gapR m r).2 = false
  | [], k, _, r, hr => by simp at hr
  | r' :: rs, k, h, r, hr => by
    unfold firstRipe at h
    by_cases hg : (gapR m r').2 = true
    · rw [if_pos hg] at h
      cases h
    · rw [if_neg hg] at h
      rcases List.mem_cons.1 hr with rfl | hr
      · simpa using hg
      · exact firstRipe_none rs (k + 1) h r hr
/-- A ripe row's number, as it is found. -/
theorem ripe_fact {m : List Bool} {rows : List (List Int)} (hr : inR m.length rows) {j : Nat} {i : Int} (h : firstRipe m rows 0 = some (j, i)) : j < rows.length ∧ 0 ≤ i ∧ i < (m.length : Int) ∧ mk m i = false ∧ ∃ r ∈ rows, restB m r = [i] := by
  obtain ⟨_, r, h2, h3, rfl⟩ := firstRipe_some rows 0 h
  have hmem := List.mem_of_getElem? h2
  obtain ⟨e, h4, h5, h6⟩ := gap_ripe (hr r hmem) h3
  refine ⟨?_, h4, h5, h6, r, hmem, e⟩
  have := (List.getElem?_eq_some_iff.1 h2).1
  omega
theorem count_set : ∀ (m : List Bool) (j : Nat), m.getD j true = false → (m.set j true).count false + 1 = m.count false
  | [], j, h => by simp at h
  | x :: xs, 0, h => by
    have hx : x = false := by simpa using h
    subst hx
    simp
  | x :: xs, j + 1, h => by
    have := count_set xs j (by simpa using h)
    simp only [List.set_cons_succ, List.count_cons]
    omega
theorem count_step {m : List Bool} {i : Int} (h0 : 0 ≤ i) (h1 : i < (m.length : Int)) (h : mk m i = false) : (m.set i.toNat true).count false + 1 = m.count false := by
  refine count_set m i.toNat ?_
  unfold mk at h
  rw [List.getD_eq_getElem?_getD] at h ⊢
  rw [List.getElem?_eq_getElem (by omega)] at h ⊢
  exact h
/-- Enough rounds: more change nothing. -/
theorem runS_more (rows : List (List Int)) : ∀ (f : Nat) (m : List Bool), inR m.length rows → m.count false ≤ f → ∀ g, f ≤ g → runS rows g m = runS rows f m
  | f, m, hr, hc, g, hg => by
    induction f generalizing m g with
    | zero =>
      cases g with
      | zero => rfl
      | succ g =>
        unfold runS
        cases h : firstRipe m rows 0 with
        | none => rfl
        | some p =>
          obtain ⟨j, i⟩ := p
          obtain ⟨_, h0, h1, h2, _⟩ := ripe_fact hr h
          have := count_step h0 h1 h2
          omega
    | succ f ih =>
      cases g with
      | zero => omega
      | succ g =>
        unfold runS
        cases h : firstRipe m rows 0 with
        | none => rfl
        | some p =>
          obtain ⟨j, i⟩ := p
          obtain ⟨_, h0, h1, h2, _⟩ := ripe_fact hr h
          have := count_step h0 h1 h2
          have e := ih (m.set i.toNat true) (by rw [List.length_set]; exact hr) (by omega) g (by omega)
          simp only [e]
def to38 (p : Nat × Int) : S38 := ⟨(p.1 : Int), p.2⟩
theorem peel_scan (rows : List (List Int)) (hb : rows.length ≤ 400) (m : List Bool) (hm : m.length ≤ 160) (hr : inR m.length rows) (hl : ∀ r ∈ rows, r.length ≤ 9223372036854775807) (acc : List S38) (ha : acc.length ≤ 1000) (R : List S38 × List Bool)
    (hn : firstRipe m rows 0 = none → R = (acc, m)) (hs : ∀ j i, firstRipe m rows 0 = some (j, i) → Ev (fun k => peel_peel.l0 k rows (m.set i.toNat true) (acc ++ [to38 (j, i)]) 0) R) (d : Nat) :
    ∀ i : Nat, rows.length - i = d → i ≤ rows.length → firstRipe m rows 0 = firstRipe m (rows.drop i) i → Ev (fun k => peel_peel.l0 k rows m acc (i : Int)) R := by
  induction d with
  | zero =>
    intro i hd hi he
    rw [List.drop_of_length_le (by omega)] at he
    refine Ev.succ ?_
    simp only [peel_peel.l0]
    exact Ev.pos (by omega) (Ev.some_ (hn he).symm)
  | succ d ih =>
    intro i hd hi he
    have hlt : i < rows.length := by omega
    have hrr : rd_L3 rows (i : Int) = rows[i] := by simp [rd_L3, List.getD_eq_getElem?_getD, hlt]
    rw [List.drop_eq_getElem_cons hlt] at he
    refine Ev.succ ?_
    simp only [peel_peel.l0]
    rw [hrr]
    refine Ev.neg (by omega) (Ev.pos (by omega) (Ev.pos (by omega) (Ev.bind (gap_ev m rows[i] (by omega) (hr _ (List.getElem_mem hlt)) (hl _ (List.getElem_mem hlt))) ?_)))
    by_cases hg : (gapR m rows[i]).2 = true
    · obtain ⟨_, h0, h1, _⟩ := gap_ripe (hr _ (List.getElem_mem hlt)) hg
      have e : firstRipe m rows 0 = some (i, (gapR m rows[i]).1) := by
        rw [he]
        simp [firstRipe, hg]
      have := hs _ _ e
      refine Ev.pos hg (Ev.pos h0 (Ev.pos h1 (Ev.pos (by omega) ?_)))
      exact this
    · refine Ev.neg hg ?_
      rw [wrap_succ i (by omega)]
      refine ih (i + 1) (by omega) (by omega) ?_
      rw [he]
      simp [firstRipe, hg]
theorem peel_l0 (rows : List (List Int)) (hb : rows.length ≤ 400) (hl : ∀ r ∈ rows, r.length ≤ 9223372036854775807) : ∀ (f : Nat) (m : List Bool), m.length ≤ 160 → inR m.length rows → m.count false ≤ f → ∀ acc : List S38, acc.length + f ≤ 1000 →
    Ev (fun k => peel_peel.l0 k rows m acc 0) (acc ++ (runS rows f m).1.map to38, (runS rows f m).2) := by
  intro f
  induction f with
  | zero =>
    intro m hm hr hc acc ha
    refine peel_scan rows hb m hm hr hl acc (by omega) _ (fun h => by simp [runS]) (fun j i h => ?_) rows.length 0 (by omega) (by omega) (by simp)
    obtain ⟨_, h0, h1, h2, _⟩ := ripe_fact hr h
    have := count_step h0 h1 h2
    omega
  | succ f ih =>
    intro m hm hr hc acc ha
    refine peel_scan rows hb m hm hr hl acc (by omega) _ (fun h => by simp [runS, h]) (fun j i h => ?_) rows.length 0 (by omega) (by omega) (by simp)
    obtain ⟨_, h0, h1, h2, _⟩ := ripe_fact hr h
    have := count_step h0 h1 h2
    have e := ih (m.set i.toNat true) (by rw [List.length_set]; exact hm) (by rw [List.length_set]; exact hr) (by omega) (acc ++ [to38 (j, i)]) (by simp; omega)
    refine e.to ?_
    simp [runS, h]
/-- What peeling comes to: its steps, and the marks behind them. -/
def peelB (rows : List (List Int)) (m : List Bool) : List (Nat × Int) × List Bool := runS rows m.length m
theorem peel_ev (rows : List (List Int)) (hb : rows.length ≤ 400) (hl : ∀ r ∈ rows, r.length ≤ 9223372036854775807) (m : List Bool) (hm : m.length ≤ 160) (hr : inR m.length rows) : Ev (fun k => peel_peel.f k rows m) ((peelB rows m).1.map to38, (peelB rows m).2) := by
  have := peel_l0 rows hb hl m.length m hm hr List.count_le_length [] (by simp; omega)
  simpa [peel_peel.f, peelB] using this
theorem runS_length (rows : List (List Int)) : ∀ (f : Nat) (m : List Bool), (runS rows f m).2.length = m.length
  | 0, m => rfl
  | f + 1, m => by
    unfold runS
    cases firstRipe m rows 0 with
    | none => rfl
    | some p => simp [runS_length rows f]
end Go.Proofs.Ytnchcapdfmccjaa.Pure
/-! #### Pr66 -/
-- By the kit's print, called by a program of this session with functions that are proved by hand.
namespace Go.Proofs.Ytnchcapdfmccjaa.Print
open Go.RowKit Go.Proofs.YtnchcapdfmccjaaW.PrintWords Go.Proofs.YtnchcapdfmccjaaW.PrintLast Go.Proofs.YtnchcapdfmccjaaW.PrintMore
attribute [local go_sem] max2_int min2_int max_two min_two max_three min_three max_four min_four
set_option linter.unusedVariables false
set_option linter.unusedSimpArgs false

/-! ### mosaicref13_Rest: function 66 -/
def mosaicref13_Rest.l0 : Nat → List Int → List Int → List Int → Int → Option (List Int)
 | 0, _, _, _, _ => none
 | k + 1, x0, x1, x5, x6 => if x6 < (x0.length : Int) then (if 0 ≤ x6 then ((mosaicref09_Has.f k x1 (rd x0 x6)).bind fun t188 => (if t188 = true then (mosaicref13_Rest.l0 k x0 x1 x5 (wrap64 (x6 + 1))) else (if x5.length < 17592186044416 then (mosaicref13_Rest.l0 k x0 x1 (x5 ++ [rd x0 x6]) (wrap64 (x6 + 1))) else (none)))) else (none)) else (some x5)
def mosaicref13_Rest.f (k : Nat) (l0 : List Int) (l1 : List Int) : Option (List Int) := mosaicref13_Rest.l0 k l0 l1 ([] : List Int) 0
theorem mosaicref13_Rest.mono_l : ∀ k, (∀ y0 y1 y2 y3, LeO (mosaicref13_Rest.l0 k y0 y1 y2 y3) (mosaicref13_Rest.l0 (k + 1) y0 y1 y2 y3))
 | 0 => fun _ _ _ _ r h => by simp [mosaicref13_Rest.l0] at h
 | k + 1 => by
  have ih0 := mosaicref13_Rest.mono_l k
  ·
   intro y0 y1 y2 y3
   unfold mosaicref13_Rest.l0
   repeat' first
   | (with_reducible exact ih0 _ _ _ _)
   | (with_reducible exact mosaicref09_Has.mono _ _ _)
   | (with_reducible exact LeO.refl _)
   | (with_reducible exact LeO.none _)
   | (with_reducible refine LeO.ite ?_ ?_)
   | (with_reducible refine LeO.bind ?_ (fun _ => ?_))
   | exact ih0 _ _ _ _
   | exact mosaicref09_Has.mono _ _ _
   | exact LeO.none _
   | refine LeO.ite ?_ ?_
   | refine LeO.bind ?_ (fun _ => ?_)
theorem mosaicref13_Rest.mono : ∀ a0 a1 k, LeO (mosaicref13_Rest.f k a0 a1) (mosaicref13_Rest.f (k + 1) a0 a1) := by
 intro a0 a1 k
 have ih0 := mosaicref13_Rest.mono_l k
 unfold mosaicref13_Rest.f
 repeat' first
   | (with_reducible exact ih0 _ _ _ _)
   | (with_reducible exact mosaicref09_Has.mono _ _ _)
   | (with_reducible exact LeO.refl _)
   | (with_reducible exact LeO.none _)
   | (with_reducible refine LeO.ite ?_ ?_)
   | (with_reducible refine LeO.bind ?_ (fun _ => ?_))
   | exact ih0 _ _ _ _
   | exact mosaicref09_Has.mono _ _ _
   | exact LeO.none _
   | refine LeO.ite ?_ ?_
   | refine LeO.bind ?_ (fun _ => ?_)
set_option maxHeartbeats 8000000 in
set_option maxRecDepth 100000 in
theorem mosaicref13_Rest.calls (k : Nat) (A0 : Option Addr) (c0 : Nat) (l0 : List Int) (A1 : Option Addr) (c1 : Nat) (l1 : List Int) (r : List Int) (w : World) (hr0 : Kd.C (Kd.int .i64) w A0 l0.length l0) (hc0 : l0.length ≤ c0) (hr1 : Kd.C (Kd.int .i64) w A1 l1.length l1) (hc1 : l1.length ≤ c1) (h : mosaicref13_Rest.f k l0 l1 = some r) :
  Calls Try.prog 66 #[.slice A0 l0.length c0, .slice A1 l1.length c1] w fun e w' => ∃ v0_ : Value, e = .returned (v0_) ∧ Kd.R (Kd.int .i64) 3 w' w.heap.size (fun _ => True) v0_ r ∧ Below w.heap.size w w' := by
 have HR0 := Aside0.mk hr0
 have HC0 := Aside0.mk hc0
 clear hr0 hc0
 have HR1 := Aside0.mk hr1
 have HC1 := Aside0.mk hc1
 clear hr1 hc1
 have HB := Aside0.mk (Below.refl w.heap.size w)
 have H : (mosaicref13_Rest.l0 k l0 l1 ([] : List Int) 0) = some r := h
 clear h
 have H' := Aside0.mk H
 clear H
 go_enter Try.func66, Try.ntmps66
 go_wp2
 go_loopg [5, 6] k (fun kq v5 v6 w' => ∃ (x5_1 : List Int) (x6_1 : Int), v6 = .int .i64 x6_1 ∧ Aside0 (mosaicref13_Rest.l0 kq l0 l1 x5_1 x6_1 = some r) ∧ Aside0 (kq ≤ k) ∧ Aside0 (Kd.R (Kd.int .i64) 3 w' w.heap.size (fun _ => True) v5 x5_1) ∧ Aside0 (Below w.heap.size w w'))
 case atStart => exact ⟨(([] : List Int)), (0), (by first | rfl | (simp; done) | (simp [*]; done)), H', ⟨Nat.le_refl _⟩, ⟨by first | exact Kd.R_nil _ _ _ _ _ | exact Kd.N_nil _ _ _ _ _ | exact Kd.V_nil _ _ _ _ _ | exact Kd.Q_nil _ _ _ _ _ | exact Kd.S_nil _ _ _ _ _⟩, ⟨by repeat (first | (with_reducible first | exact HB.out | apply below_alloc | apply pw_below_drewN | apply below_drew1) | exact HB.out)⟩⟩
 case round =>
  clear H'
  try clear c1
  try clear p2
  obtain ⟨x5_1, x6_1, rfl, HA, HK1, HO_5, HB⟩ := hrel
  cases gk with
  | zero => exact absurd HA.out (by simp [mosaicref13_Rest.l0])
  | succ k1 =>
   have H := HA.out
   clear HA
   simp only [mosaicref13_Rest.l0] at H
   by_cases c3 : x6_1 < (l0.length : Int)
   ·
    rw [if_pos c3] at H
    have c3b0 : decide (x6_1 < (l0.length : Int)) = true := decide_eq_true c3
    clear c3
    by_cases c4 : 0 ≤ x6_1
    ·
     rw [if_pos c4] at H
     have c4b0 : decide (0 ≤ x6_1) = true := decide_eq_true c4
     clear c4
     replace H := Option.bind_eq_some_iff.mp H
     obtain ⟨t188, A50, H⟩ := H
     replace H : (if t188 = true then (mosaicref13_Rest.l0 k1 l0 l1 x5_1 (wrap64 (x6_1 + 1))) else (if x5_1.length < 17592186044416 then (mosaicref13_Rest.l0 k1 l0 l1 (x5_1 ++ [rd l0 x6_1]) (wrap64 (x6_1 + 1))) else (none))) = some r := H
     have A5 := Aside0.mk A50
     clear A50
     by_cases c6 : t188 = true
     ·
      subst c6
      have H1 : (mosaicref13_Rest.l0 k1 l0 l1 x5_1 (wrap64 (x6_1 + 1))) = some r := by rw [if_pos rfl] at H; exact H
      clear H
      have H := H1
      clear H1
      have H' := Aside0.mk H
      clear H
      have p187 : 0 ≤ (x6_1 : Int) := of_decide_eq_true (by first | (with_reducible assumption) | assumption)
      have q187 : x6_1 < (l0.length : Int) := of_decide_eq_true (by first | (with_reducible assumption) | assumption)
      obtain ⟨ad187, e187, hx187_0⟩ := Kd.at_int HR0.out x6_1 p187 q187
      cases e187
      replace hx187_0 := (HB.out.cell (World.block_lt_of_cell? w _ hx187_0)).trans hx187_0
      replace p187 := eq_true p187
      replace q187 := eq_true q187
      go_wp2_with (first | ((with_reducible refine gate_callee (f := 21) rfl ?_); refine goesL_ (some 18) rfl rfl Try.func21 (by kernel_rfl) rfl #[.slice A1 l1.length c1, .int .i64 (rd l0 x6_1)] rfl (by (try simp only [List.map_toArray, List.map_cons, List.map_nil]); first | done | rfl | (simp only [List.length_drop, List.length_take]; rfl)) ?_; (with_reducible refine (mosaicref09_Has.calls k1 _ _ l1 (rd l0 x6_1) true _ ?side1 ?side2 A5.out).mono ?_); (case side1 => repeat (first | exact (Kd.C_below HR1.out HB.out) | (with_reducible refine Kd.C_alloc ?_ _) | (with_reducible refine Kd.C_drewN ?_ _) | (with_reducible refine Kd.C_drew ?_))); (case side2 => exact HC1.out); rintro e w' ⟨rfl, ⟨nd, rfl⟩⟩; refine ⟨_, rfl, ?_⟩))
      go_roundg k1
      case measure => have := HK1.out; omega
      case rel => exact ⟨(x5_1), (wrap64 (x6_1 + 1)), (by first | rfl | (simp; done) | (simp [*]; done)), H', ⟨by have := HK1.out; omega⟩, ⟨by (with_reducible repeat (first | apply Kd.R_alloc | apply Kd.R_drewN | apply Kd.R_drew)); exact HO_5.out⟩, ⟨by repeat (first | (with_reducible first | exact HB.out | apply below_alloc | apply pw_below_drewN | apply below_drew1) | exact HB.out)⟩⟩
     ·
      replace c6 := Bool.eq_false_iff.mpr c6
      subst c6
      have H1 : (if x5_1.length < 17592186044416 then (mosaicref13_Rest.l0 k1 l0 l1 (x5_1 ++ [rd l0 x6_1]) (wrap64 (x6_1 + 1))) else (none)) = some r := by rw [if_neg (show ¬ (false = true) by decide)] at H; exact H
      clear H
      have H := H1
      clear H1
      by_cases c7 : x5_1.length < 17592186044416
      ·
       rw [if_pos c7] at H
       have LMc7 := Aside0.mk c7
       clear c7
       obtain ⟨y190, hy190⟩ : ∃ y_ : List Int, y_ = (x5_1 ++ [rd l0 x6_1]) := ⟨_, rfl⟩
       replace H : (mosaicref13_Rest.l0 k1 l0 l1 y190 (wrap64 (x6_1 + 1))) = some r := by first | (rw [hy190]; with_reducible exact H) | (have H2_ := (Option.bind_some _ _).symm.trans H; rw [hy190]; with_reducible exact H2_) | (have H2_ := (Option.bind_some _ _).symm.trans H; with_reducible exact H2_) | with_reducible exact H | (rw [hy190]; exact H) | exact H
       have Ny190 := Aside0.mk hy190
       clear hy190
       have H' := Aside0.mk H
       clear H
       have p187 : 0 ≤ (x6_1 : Int) := of_decide_eq_true (by first | (with_reducible assumption) | assumption)
       have q187 : x6_1 < (l0.length : Int) := of_decide_eq_true (by first | (with_reducible assumption) | assumption)
       obtain ⟨ad187, e187, hx187_0⟩ := Kd.at_int HR0.out x6_1 p187 q187
       cases e187
       replace hx187_0 := (HB.out.cell (World.block_lt_of_cell? w _ hx187_0)).trans hx187_0
       replace p187 := eq_true p187
       replace q187 := eq_true q187
       go_wp2_with (first | ((with_reducible refine gate_callee (f := 21) rfl ?_); refine goesL_ (some 18) rfl rfl Try.func21 (by kernel_rfl) rfl #[.slice A1 l1.length c1, .int .i64 (rd l0 x6_1)] rfl (by (try simp only [List.map_toArray, List.map_cons, List.map_nil]); first | done | rfl | (simp only [List.length_drop, List.length_take]; rfl)) ?_; (with_reducible refine (mosaicref09_Has.calls k1 _ _ l1 (rd l0 x6_1) false _ ?side1 ?side2 A5.out).mono ?_); (case side1 => repeat (first | exact (Kd.C_below HR1.out HB.out) | (with_reducible refine Kd.C_alloc ?_ _) | (with_reducible refine Kd.C_drewN ?_ _) | (with_reducible refine Kd.C_drew ?_))); (case side2 => exact HC1.out); rintro e w' ⟨rfl, ⟨nd, rfl⟩⟩; refine ⟨_, rfl, ?_⟩; have p189 : 0 ≤ (x6_1 : Int) := of_decide_eq_true (by first | (with_reducible assumption) | assumption); have q189 : x6_1 < (l0.length : Int) := of_decide_eq_true (by first | (with_reducible assumption) | assumption); obtain ⟨ad189, e189, hx189_0⟩ := Kd.at_int HR0.out x6_1 p189 q189; obtain rfl : ad187 = ad189 := (by injection e189); replace hx189_0 := (HB.out.cell (World.block_lt_of_cell? w _ hx189_0)).trans hx189_0; replace p189 := eq_true p189; replace q189 := eq_true q189) | ((with_reducible refine gate_builtin (b := .append) (xs := #[.tmp 20, .tmp 25]) rfl ?_); at_builtin; refine Kd.R_append (Kd.int .i64) (w0 := w) w.heap.size rfl (.tmp 20) (.tmp 25) 23 3 (.int .i64 0) 8 rfl Try.underlying23 info3 rfl (by decide) (by omega) u5 x5_1 (rd l0 x6_1) [.int .i64 (rd l0 x6_1)] (fun _ => True) (fun _ => False) rfl rfl ?aP (fun _ hk => hk.elim) ?aF ?aO ?aB ?aS ?aL ?_; (case aP => exact rfl); (case aB => exact (by repeat (first | (with_reducible first | exact HB.out | apply below_alloc | apply pw_below_drewN | apply below_drew1) | exact HB.out))); (case aF => exact (fun _ _ => trivial)); (case aO => exact (by (with_reducible repeat (first | apply Kd.R_alloc | apply Kd.R_drewN | apply Kd.R_drew)); exact HO_5.out)); (case aS => exact (below_size (by repeat (first | (with_reducible first | exact HB.out | apply below_alloc | apply pw_below_drewN | apply below_drew1) | exact HB.out)))); (case aL => have := LMc7.out; omega); intro v191 w8 ho hb hg hat; rw [← Ny190.out] at ho; have n0_ := Aside0.mk (hb); have n1_ := Aside0.mk (ho); clear HB; clear HO_5; have HB := n0_; have HO192 := n1_; clear n0_ n1_; clear ho hb hg hat))
       go_roundg k1
       case measure => have := HK1.out; omega
       case rel => exact ⟨(y190), (wrap64 (x6_1 + 1)), (by first | rfl | (simp; done) | (simp [*]; done)), H', ⟨by have := HK1.out; omega⟩, ⟨by (with_reducible repeat (first | apply Kd.R_alloc | apply Kd.R_drewN | apply Kd.R_drew)); exact HO192.out⟩, ⟨by repeat (first | (with_reducible first | exact HB.out | apply below_alloc | apply pw_below_drewN | apply below_drew1) | exact HB.out)⟩⟩
      ·
       rw [if_neg c7] at H
       exact absurd H (by simp)
    ·
     rw [if_neg c4] at H
     exact absurd H (by simp)
   ·
    rw [if_neg c3] at H
    have c3b0 : decide (x6_1 < (l0.length : Int)) = false := decide_eq_false c3
    clear c3
    obtain rfl := Option.some.inj H
    go_wp2
    go_ret
    exact ⟨_, by first | rfl | (simp [errW_none, errW_some] <;> rfl) | (simp [*, errW_none, errW_some] <;> rfl), by (with_reducible repeat (first | apply Kd.R_alloc | apply Kd.R_drewN | apply Kd.R_drew)); exact HO_5.out, by repeat (first | (with_reducible first | exact HB.out | apply below_alloc | apply pw_below_drewN | apply below_drew1) | exact HB.out)⟩

end Go.Proofs.Ytnchcapdfmccjaa.Print
