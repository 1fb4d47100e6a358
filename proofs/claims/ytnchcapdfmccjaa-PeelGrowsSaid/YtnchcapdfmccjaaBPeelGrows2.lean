/- The proof of the statement PeelGrows of the seat, part 2 of 3: the functions that it reaches, as plain functions, with the walks that show it, and what they come to; the last part ends in the row. No condition beyond the statement's own. -/
import Derived.Test.YtnchcapdfmccjaaWWords
import Derived.Test.YtnchcapdfmccjaaWLast
import Derived.Test.YtnchcapdfmccjaaBPeelGrows1
/-! #### Pr4 -/
-- By the kit's print, called by a program of this session with functions that are proved by hand.
namespace Go.Proofs.Ytnchcapdfmccjaa.Print
open Go.RowKit Go.Proofs.YtnchcapdfmccjaaW.PrintWords Go.Proofs.YtnchcapdfmccjaaW.PrintLast Go.Proofs.YtnchcapdfmccjaaW.PrintMore
attribute [local go_sem] max2_int min2_int max_two min_two max_three min_three max_four min_four
set_option linter.unusedVariables false
set_option linter.unusedSimpArgs false

/-! ### mosaiclaw13_PeelGrows: function 4 -/
mutual
def mosaiclaw13_PeelGrows.j0 : Nat → Int → List (List Int) → List Int → List Int → List Int → Bool → Option (Bool)
 | 0, _, _, _, _, _, _ => none
 | k + 1, x0, x1, x2, x7, x11, x68 => if x68 = true then (some false) else (mosaiclaw13_PeelGrows.l0 k x0 x1 x2 x7 x11 0)
def mosaiclaw13_PeelGrows.l0 : Nat → Int → List (List Int) → List Int → List Int → List Int → Int → Option (Bool)
 | 0, _, _, _, _, _, _ => none
 | k + 1, x0, x1, x2, x7, x11, x13 => if x13 < (x11.length : Int) then (if 0 ≤ x13 then ((mosaicref09_Has.f k x7 (rd x11 x13)).bind fun t330 => (if t330 = true then (mosaiclaw13_PeelGrows.l0 k x0 x1 x2 x7 x11 (wrap64 (x13 + 1))) else (some false))) else (none)) else (mosaiclaw13_PeelGrows.l1 k x0 x1 x2 x7 0)
def mosaiclaw13_PeelGrows.l1 : Nat → Int → List (List Int) → List Int → List Int → Int → Option (Bool)
 | 0, _, _, _, _, _ => none
 | k + 1, x0, x1, x2, x7, x14 => if x14 < (x2.length : Int) then (if 0 ≤ x14 then ((mosaicref09_Has.f k x7 (rd x2 x14)).bind fun t332 => (if t332 = true then (mosaiclaw13_PeelGrows.l1 k x0 x1 x2 x7 (wrap64 (x14 + 1))) else (some false))) else (none)) else (if (x2.length : Int) > 0 then (if 1 ≤ (x2.length : Int) then ((peel_Known.f k x0 x1 (x2.drop 1)).bind fun bt334 => (if bt334.2 = 0 then (mosaiclaw13_PeelGrows.l2 k x7 bt334.1 0) else (some false))) else (none)) else ((mosaiclaw13_awake.f k).bind fun t341 => (some t341)))
def mosaiclaw13_PeelGrows.l2 : Nat → List Int → List Int → Int → Option (Bool)
 | 0, _, _, _ => none
 | k + 1, x7, x15, x17 => if x17 < (x15.length : Int) then (if 0 ≤ x17 then ((mosaicref09_Has.f k x7 (rd x15 x17)).bind fun t339 => (if t339 = true then (mosaiclaw13_PeelGrows.l2 k x7 x15 (wrap64 (x17 + 1))) else (some false))) else (none)) else ((mosaiclaw13_awake.f k).bind fun t340 => (some t340))
end
def mosaiclaw13_PeelGrows.f (k : Nat) (a0 : Int) (l1 : List (List Int)) (l2 : List Int) : Option (Bool) := (mosaiclaw13_few.f k a0 l1 l2).bind fun t309 => (if t309 = true then ((peel_Known.f k a0 l1 l2).bind fun bt311 => (if bt311.2 = 0 then ((peel_Known.f k a0 l1 bt311.1).bind fun bt316 => (if 0 ≤ (wrap64 ((l1.length : Int) / 2)) then (if (wrap64 ((l1.length : Int) / 2)) ≤ (l1.length : Int) then ((peel_Known.f k a0 (l1.take ((wrap64 ((l1.length : Int) / 2)) : Int).toNat) l2).bind fun bt324 => (if bt316.2 = 0 then (if bt324.2 = 0 then ((mosaicref04_Same.f k bt311.1 bt316.1).bind fun t328 => (mosaiclaw13_PeelGrows.j0 k a0 l1 l2 bt311.1 bt324.1 (!t328))) else (mosaiclaw13_PeelGrows.j0 k a0 l1 l2 bt311.1 bt324.1 true)) else (mosaiclaw13_PeelGrows.j0 k a0 l1 l2 bt311.1 bt324.1 true))) else (none)) else (none))) else ((mosaiclaw13_awake.f k).bind fun t315 => (if t315 = true then (some ((bt311.1.length : Int) == 0)) else (some false))))) else ((mosaiclaw13_awake.f k).bind fun t310 => (some t310)))
theorem mosaiclaw13_PeelGrows.mono_l : ∀ k, (∀ y0 y1 y2 y3 y4 y5, LeO (mosaiclaw13_PeelGrows.j0 k y0 y1 y2 y3 y4 y5) (mosaiclaw13_PeelGrows.j0 (k + 1) y0 y1 y2 y3 y4 y5)) ∧ (∀ y0 y1 y2 y3 y4 y5, LeO (mosaiclaw13_PeelGrows.l0 k y0 y1 y2 y3 y4 y5) (mosaiclaw13_PeelGrows.l0 (k + 1) y0 y1 y2 y3 y4 y5)) ∧ (∀ y0 y1 y2 y3 y4, LeO (mosaiclaw13_PeelGrows.l1 k y0 y1 y2 y3 y4) (mosaiclaw13_PeelGrows.l1 (k + 1) y0 y1 y2 y3 y4)) ∧ (∀ y0 y1 y2, LeO (mosaiclaw13_PeelGrows.l2 k y0 y1 y2) (mosaiclaw13_PeelGrows.l2 (k + 1) y0 y1 y2))
 | 0 => ⟨fun _ _ _ _ _ _ r h => by simp [mosaiclaw13_PeelGrows.j0] at h, fun _ _ _ _ _ _ r h => by simp [mosaiclaw13_PeelGrows.l0] at h, fun _ _ _ _ _ r h => by simp [mosaiclaw13_PeelGrows.l1] at h, fun _ _ _ r h => by simp [mosaiclaw13_PeelGrows.l2] at h⟩
 | k + 1 => by
  obtain ⟨ih0, ih1, ih2, ih3⟩ := mosaiclaw13_PeelGrows.mono_l k
  refine ⟨?_, ?_, ?_, ?_⟩
  ·
   intro y0 y1 y2 y3 y4 y5
   unfold mosaiclaw13_PeelGrows.j0
   repeat' first
   | (with_reducible exact ih0 _ _ _ _ _ _)
   | (with_reducible exact ih1 _ _ _ _ _ _)
   | (with_reducible exact ih2 _ _ _ _ _)
   | (with_reducible exact ih3 _ _ _)
   | (with_reducible exact mosaiclaw13_awake.mono _)
   | (with_reducible exact mosaiclaw13_few.mono _ _ _ _)
   | (with_reducible exact mosaicref04_Same.mono _ _ _)
   | (with_reducible exact mosaicref09_Has.mono _ _ _)
   | (with_reducible exact peel_Known.mono _ _ _ _)
   | (with_reducible exact LeO.refl _)
   | (with_reducible exact LeO.none _)
   | (with_reducible refine LeO.ite ?_ ?_)
   | (with_reducible refine LeO.bind ?_ (fun _ => ?_))
   | exact ih0 _ _ _ _ _ _
   | exact ih1 _ _ _ _ _ _
   | exact ih2 _ _ _ _ _
   | exact ih3 _ _ _
   | exact mosaiclaw13_awake.mono _
   | exact mosaiclaw13_few.mono _ _ _ _
   | exact mosaicref04_Same.mono _ _ _
   | exact mosaicref09_Has.mono _ _ _
   | exact peel_Known.mono _ _ _ _
   | exact LeO.none _
   | refine LeO.ite ?_ ?_
   | refine LeO.bind ?_ (fun _ => ?_)
  ·
   intro y0 y1 y2 y3 y4 y5
   unfold mosaiclaw13_PeelGrows.l0
   repeat' first
   | (with_reducible exact ih0 _ _ _ _ _ _)
   | (with_reducible exact ih1 _ _ _ _ _ _)
   | (with_reducible exact ih2 _ _ _ _ _)
   | (with_reducible exact ih3 _ _ _)
   | (with_reducible exact mosaiclaw13_awake.mono _)
   | (with_reducible exact mosaiclaw13_few.mono _ _ _ _)
   | (with_reducible exact mosaicref04_Same.mono _ _ _)
   | (with_reducible exact mosaicref09_Has.mono _ _ _)
   | (with_reducible exact peel_Known.mono _ _ _ _)
   | (with_reducible exact LeO.refl _)
   | (with_reducible exact LeO.none _)
   | (with_reducible refine LeO.ite ?_ ?_)
   | (with_reducible refine LeO.bind ?_ (fun _ => ?_))
   | exact ih0 _ _ _ _ _ _
   | exact ih1 _ _ _ _ _ _
   | exact ih2 _ _ _ _ _
   | exact ih3 _ _ _
   | exact mosaiclaw13_awake.mono _
   | exact mosaiclaw13_few.mono _ _ _ _
   | exact mosaicref04_Same.mono _ _ _
   | exact mosaicref09_Has.mono _ _ _
   | exact peel_Known.mono _ _ _ _
   | exact LeO.none _
   | refine LeO.ite ?_ ?_
   | refine LeO.bind ?_ (fun _ => ?_)
  ·
   intro y0 y1 y2 y3 y4
   unfold mosaiclaw13_PeelGrows.l1
   repeat' first
   | (with_reducible exact ih0 _ _ _ _ _ _)
   | (with_reducible exact ih1 _ _ _ _ _ _)
   | (with_reducible exact ih2 _ _ _ _ _)
   | (with_reducible exact ih3 _ _ _)
   | (with_reducible exact mosaiclaw13_awake.mono _)
   | (with_reducible exact mosaiclaw13_few.mono _ _ _ _)
   | (with_reducible exact mosaicref04_Same.mono _ _ _)
   | (with_reducible exact mosaicref09_Has.mono _ _ _)
   | (with_reducible exact peel_Known.mono _ _ _ _)
   | (with_reducible exact LeO.refl _)
   | (with_reducible exact LeO.none _)
   | (with_reducible refine LeO.ite ?_ ?_)
   | (with_reducible refine LeO.bind ?_ (fun _ => ?_))
   | exact ih0 _ _ _ _ _ _
   | exact ih1 _ _ _ _ _ _
   | exact ih2 _ _ _ _ _
   | exact ih3 _ _ _
   | exact mosaiclaw13_awake.mono _
   | exact mosaiclaw13_few.mono _ _ _ _
   | exact mosaicref04_Same.mono _ _ _
   | exact mosaicref09_Has.mono _ _ _
   | exact peel_Known.mono _ _ _ _
   | exact LeO.none _
   | refine LeO.ite ?_ ?_
   | refine LeO.bind ?_ (fun _ => ?_)
  ·
   intro y0 y1 y2
   unfold mosaiclaw13_PeelGrows.l2
   repeat' first
   | (with_reducible exact ih0 _ _ _ _ _ _)
   | (with_reducible exact ih1 _ _ _ _ _ _)
   | (with_reducible exact ih2 _ _ _ _ _)
   | (with_reducible exact ih3 _ _ _)
   | (with_reducible exact mosaiclaw13_awake.mono _)
   | (with_reducible exact mosaiclaw13_few.mono _ _ _ _)
   | (with_reducible exact mosaicref04_Same.mono _ _ _)
   | (with_reducible exact mosaicref09_Has.mono _ _ _)
   | (with_reducible exact peel_Known.mono _ _ _ _)
   | (with_reducible exact LeO.refl _)
   | (with_reducible exact LeO.none _)
   | (with_reducible refine LeO.ite ?_ ?_)
   | (with_reducible refine LeO.bind ?_ (fun _ => ?_))
   | exact ih0 _ _ _ _ _ _
   | exact ih1 _ _ _ _ _ _
   | exact ih2 _ _ _ _ _
   | exact ih3 _ _ _
   | exact mosaiclaw13_awake.mono _
   | exact mosaiclaw13_few.mono _ _ _ _
   | exact mosaicref04_Same.mono _ _ _
   | exact mosaicref09_Has.mono _ _ _
   | exact peel_Known.mono _ _ _ _
   | exact LeO.none _
   | refine LeO.ite ?_ ?_
   | refine LeO.bind ?_ (fun _ => ?_)
theorem mosaiclaw13_PeelGrows.mono : ∀ a0 a1 a2 k, LeO (mosaiclaw13_PeelGrows.f k a0 a1 a2) (mosaiclaw13_PeelGrows.f (k + 1) a0 a1 a2) := by
 intro a0 a1 a2 k
 obtain ⟨ih0, ih1, ih2, ih3⟩ := mosaiclaw13_PeelGrows.mono_l k
 unfold mosaiclaw13_PeelGrows.f
 repeat' first
   | (with_reducible exact ih0 _ _ _ _ _ _)
   | (with_reducible exact ih1 _ _ _ _ _ _)
   | (with_reducible exact ih2 _ _ _ _ _)
   | (with_reducible exact ih3 _ _ _)
   | (with_reducible exact mosaiclaw13_awake.mono _)
   | (with_reducible exact mosaiclaw13_few.mono _ _ _ _)
   | (with_reducible exact mosaicref04_Same.mono _ _ _)
   | (with_reducible exact mosaicref09_Has.mono _ _ _)
   | (with_reducible exact peel_Known.mono _ _ _ _)
   | (with_reducible exact LeO.refl _)
   | (with_reducible exact LeO.none _)
   | (with_reducible refine LeO.ite ?_ ?_)
   | (with_reducible refine LeO.bind ?_ (fun _ => ?_))
   | exact ih0 _ _ _ _ _ _
   | exact ih1 _ _ _ _ _ _
   | exact ih2 _ _ _ _ _
   | exact ih3 _ _ _
   | exact mosaiclaw13_awake.mono _
   | exact mosaiclaw13_few.mono _ _ _ _
   | exact mosaicref04_Same.mono _ _ _
   | exact mosaicref09_Has.mono _ _ _
   | exact peel_Known.mono _ _ _ _
   | exact LeO.none _
   | refine LeO.ite ?_ ?_
   | refine LeO.bind ?_ (fun _ => ?_)
set_option maxHeartbeats 8000000 in
set_option maxRecDepth 100000 in
theorem mosaiclaw13_PeelGrows.calls (k : Nat) (a0 : Int) (A1 : Option Addr) (c1 : Nat) (l1 : List (List Int)) (A2 : Option Addr) (c2 : Nat) (l2 : List Int) (r : Bool) (w : World) (hr1 : Kd.C (Kd.slice 3 (Kd.int .i64)) w A1 l1.length l1) (hc1 : l1.length ≤ c1) (hr2 : Kd.C (Kd.int .i64) w A2 l2.length l2) (hc2 : l2.length ≤ c2) (h : mosaiclaw13_PeelGrows.f k a0 l1 l2 = some r) :
  Calls Try.prog 4 #[.int .i64 a0, .slice A1 l1.length c1, .slice A2 l2.length c2] w fun e w' => e = .returned (.bool r) ∧ Below w.heap.size w w' := by
 have HR1 := Aside0.mk hr1
 have HC1 := Aside0.mk hc1
 clear hr1 hc1
 have HR2 := Aside0.mk hr2
 have HC2 := Aside0.mk hc2
 clear hr2 hc2
 have HB := Aside0.mk (Below.refl w.heap.size w)
 have H : ((mosaiclaw13_few.f k a0 l1 l2).bind fun t309 => (if t309 = true then ((peel_Known.f k a0 l1 l2).bind fun bt311 => (if bt311.2 = 0 then ((peel_Known.f k a0 l1 bt311.1).bind fun bt316 => (if 0 ≤ (wrap64 ((l1.length : Int) / 2)) then (if (wrap64 ((l1.length : Int) / 2)) ≤ (l1.length : Int) then ((peel_Known.f k a0 (l1.take ((wrap64 ((l1.length : Int) / 2)) : Int).toNat) l2).bind fun bt324 => (if bt316.2 = 0 then (if bt324.2 = 0 then ((mosaicref04_Same.f k bt311.1 bt316.1).bind fun t328 => (mosaiclaw13_PeelGrows.j0 k a0 l1 l2 bt311.1 bt324.1 (!t328))) else (mosaiclaw13_PeelGrows.j0 k a0 l1 l2 bt311.1 bt324.1 true)) else (mosaiclaw13_PeelGrows.j0 k a0 l1 l2 bt311.1 bt324.1 true))) else (none)) else (none))) else ((mosaiclaw13_awake.f k).bind fun t315 => (if t315 = true then (some ((bt311.1.length : Int) == 0)) else (some false))))) else ((mosaiclaw13_awake.f k).bind fun t310 => (some t310)))) = some r := h
 clear h
 replace H := Option.bind_eq_some_iff.mp H
 obtain ⟨t309, A40, H⟩ := H
 replace H : (if t309 = true then ((peel_Known.f k a0 l1 l2).bind fun bt311 => (if bt311.2 = 0 then ((peel_Known.f k a0 l1 bt311.1).bind fun bt316 => (if 0 ≤ (wrap64 ((l1.length : Int) / 2)) then (if (wrap64 ((l1.length : Int) / 2)) ≤ (l1.length : Int) then ((peel_Known.f k a0 (l1.take ((wrap64 ((l1.length : Int) / 2)) : Int).toNat) l2).bind fun bt324 => (if bt316.2 = 0 then (if bt324.2 = 0 then ((mosaicref04_Same.f k bt311.1 bt316.1).bind fun t328 => (mosaiclaw13_PeelGrows.j0 k a0 l1 l2 bt311.1 bt324.1 (!t328))) else (mosaiclaw13_PeelGrows.j0 k a0 l1 l2 bt311.1 bt324.1 true)) else (mosaiclaw13_PeelGrows.j0 k a0 l1 l2 bt311.1 bt324.1 true))) else (none)) else (none))) else ((mosaiclaw13_awake.f k).bind fun t315 => (if t315 = true then (some ((bt311.1.length : Int) == 0)) else (some false))))) else ((mosaiclaw13_awake.f k).bind fun t310 => (some t310))) = some r := H
 have A4 := Aside0.mk A40
 clear A40
 by_cases c5 : t309 = true
 ·
  subst c5
  have H1 : ((peel_Known.f k a0 l1 l2).bind fun bt311 => (if bt311.2 = 0 then ((peel_Known.f k a0 l1 bt311.1).bind fun bt316 => (if 0 ≤ (wrap64 ((l1.length : Int) / 2)) then (if (wrap64 ((l1.length : Int) / 2)) ≤ (l1.length : Int) then ((peel_Known.f k a0 (l1.take ((wrap64 ((l1.length : Int) / 2)) : Int).toNat) l2).bind fun bt324 => (if bt316.2 = 0 then (if bt324.2 = 0 then ((mosaicref04_Same.f k bt311.1 bt316.1).bind fun t328 => (mosaiclaw13_PeelGrows.j0 k a0 l1 l2 bt311.1 bt324.1 (!t328))) else (mosaiclaw13_PeelGrows.j0 k a0 l1 l2 bt311.1 bt324.1 true)) else (mosaiclaw13_PeelGrows.j0 k a0 l1 l2 bt311.1 bt324.1 true))) else (none)) else (none))) else ((mosaiclaw13_awake.f k).bind fun t315 => (if t315 = true then (some ((bt311.1.length : Int) == 0)) else (some false))))) = some r := by rw [if_pos rfl] at H; exact H
  clear H
  have H := H1
  clear H1
  replace H := Option.bind_eq_some_iff.mp H
  obtain ⟨⟨t311, t312⟩, A60, H⟩ := H
  replace H : (if t312 = 0 then ((peel_Known.f k a0 l1 t311).bind fun bt316 => (if 0 ≤ (wrap64 ((l1.length : Int) / 2)) then (if (wrap64 ((l1.length : Int) / 2)) ≤ (l1.length : Int) then ((peel_Known.f k a0 (l1.take ((wrap64 ((l1.length : Int) / 2)) : Int).toNat) l2).bind fun bt324 => (if bt316.2 = 0 then (if bt324.2 = 0 then ((mosaicref04_Same.f k t311 bt316.1).bind fun t328 => (mosaiclaw13_PeelGrows.j0 k a0 l1 l2 t311 bt324.1 (!t328))) else (mosaiclaw13_PeelGrows.j0 k a0 l1 l2 t311 bt324.1 true)) else (mosaiclaw13_PeelGrows.j0 k a0 l1 l2 t311 bt324.1 true))) else (none)) else (none))) else ((mosaiclaw13_awake.f k).bind fun t315 => (if t315 = true then (some ((t311.length : Int) == 0)) else (some false)))) = some r := H
  have A6 := Aside0.mk A60
  clear A60
  by_cases c7 : t312 = 0
  ·
   rw [if_pos c7] at H
   have c7b0 : (t312 == 0) = true := beq_iff_eq.mpr c7
   have c7b1 : (t312 != 0) = false := bne_eq_false_iff_eq.mpr c7
   clear c7
   replace H := Option.bind_eq_some_iff.mp H
   obtain ⟨⟨t316, t317⟩, A80, H⟩ := H
   replace H : (if 0 ≤ (wrap64 ((l1.length : Int) / 2)) then (if (wrap64 ((l1.length : Int) / 2)) ≤ (l1.length : Int) then ((peel_Known.f k a0 (l1.take ((wrap64 ((l1.length : Int) / 2)) : Int).toNat) l2).bind fun bt324 => (if t317 = 0 then (if bt324.2 = 0 then ((mosaicref04_Same.f k t311 t316).bind fun t328 => (mosaiclaw13_PeelGrows.j0 k a0 l1 l2 t311 bt324.1 (!t328))) else (mosaiclaw13_PeelGrows.j0 k a0 l1 l2 t311 bt324.1 true)) else (mosaiclaw13_PeelGrows.j0 k a0 l1 l2 t311 bt324.1 true))) else (none)) else (none)) = some r := H
   have A8 := Aside0.mk A80
   clear A80
   obtain ⟨ji9, hji9⟩ : ∃ j_ : Int, (wrap64 ((l1.length : Int) / 2)) = j_ := ⟨_, rfl⟩
   replace H : (if 0 ≤ (ji9) then (if (ji9) ≤ (l1.length : Int) then ((peel_Known.f k a0 (l1.take ((ji9) : Int).toNat) l2).bind fun bt324 => (if t317 = 0 then (if bt324.2 = 0 then ((mosaicref04_Same.f k t311 t316).bind fun t328 => (mosaiclaw13_PeelGrows.j0 k a0 l1 l2 t311 bt324.1 (!t328))) else (mosaiclaw13_PeelGrows.j0 k a0 l1 l2 t311 bt324.1 true)) else (mosaiclaw13_PeelGrows.j0 k a0 l1 l2 t311 bt324.1 true))) else (none)) else (none)) = some r := by first | (rw [hji9] at H; exact H) | (simp only [hji9] at H ⊢; exact H)
   (try rw [hji9] at A4)
   (try rw [hji9] at A6)
   (try rw [hji9] at A8)
   have hji9w : (IntKind.i64.wrap ((l1.length : Int) / 2)) = ji9 := (i64_w _).trans hji9
   by_cases c10 : 0 ≤ (ji9)
   ·
    rw [if_pos c10] at H
    have c10b0 := eq_true c10
    have c10b1 : decide (0 ≤ (ji9)) = true := decide_eq_true c10
    clear c10
    by_cases c11 : (ji9) ≤ (l1.length : Int)
    ·
     rw [if_pos c11] at H
     have c11b0 := eq_true c11
     have c11b1 : decide ((ji9) ≤ (l1.length : Int)) = true := decide_eq_true c11
     clear c11
     obtain ⟨y320, hy320⟩ : ∃ y_ : List (List Int), y_ = (l1.take ((ji9) : Int).toNat) := ⟨_, rfl⟩
     replace H : ((peel_Known.f k a0 y320 l2).bind fun bt324 => (if t317 = 0 then (if bt324.2 = 0 then ((mosaicref04_Same.f k t311 t316).bind fun t328 => (mosaiclaw13_PeelGrows.j0 k a0 l1 l2 t311 bt324.1 (!t328))) else (mosaiclaw13_PeelGrows.j0 k a0 l1 l2 t311 bt324.1 true)) else (mosaiclaw13_PeelGrows.j0 k a0 l1 l2 t311 bt324.1 true))) = some r := by first | (rw [hy320]; with_reducible exact H) | (have H2_ := (Option.bind_some _ _).symm.trans H; rw [hy320]; with_reducible exact H2_) | (have H2_ := (Option.bind_some _ _).symm.trans H; with_reducible exact H2_) | with_reducible exact H | (rw [hy320]; exact H) | exact H
     have Ny320 := Aside0.mk hy320
     clear hy320
     replace H := Option.bind_eq_some_iff.mp H
     obtain ⟨⟨t324, t325⟩, A120, H⟩ := H
     replace H : (if t317 = 0 then (if t325 = 0 then ((mosaicref04_Same.f k t311 t316).bind fun t328 => (mosaiclaw13_PeelGrows.j0 k a0 l1 l2 t311 t324 (!t328))) else (mosaiclaw13_PeelGrows.j0 k a0 l1 l2 t311 t324 true)) else (mosaiclaw13_PeelGrows.j0 k a0 l1 l2 t311 t324 true)) = some r := H
     have A12 := Aside0.mk A120
     clear A120
     have HC13 := Aside0.mk H
     clear H
     go_enter Try.func4, Try.ntmps4
     go_upto_region 8 with (first | ((with_reducible refine gate_callee (f := 17) rfl ?_); refine goesL_ (some 21) rfl rfl Try.func17 (by kernel_rfl) rfl #[.int .i64 a0, .slice A1 l1.length c1, .slice A2 l2.length c2] rfl (by (try simp only [List.map_toArray, List.map_cons, List.map_nil]); first | done | rfl | (simp only [List.length_drop, List.length_take]; rfl)) ?_; (with_reducible refine (mosaiclaw13_few.calls k a0 _ _ l1 (fun k_ => k_ < w.heap.size) _ _ l2 true _ ?side1 ?side2 ?side3 A4.out).mono ?_); (case side1 => repeat (first | exact HR1.out | (with_reducible refine Kd.C_alloc ?_ _) | (with_reducible refine Kd.C_drewN ?_ _) | (with_reducible refine Kd.C_drew ?_))); (case side2 => exact HC1.out); (case side3 => exact Kd.V_mk HC2.out (Kd.F_below (Kd.C_F (Kd.heap_int .i64) HR2.out) (by repeat (first | (with_reducible first | exact HB.out | apply below_alloc | apply pw_below_drewN | apply below_drew1) | exact HB.out)))); rintro e w14 ⟨rfl, hb⟩; refine ⟨_, rfl, ?_⟩; have n0_ := Aside0.mk (below_step (by repeat (first | (with_reducible first | exact HB.out | apply below_alloc | apply pw_below_drewN | apply below_drew1) | exact HB.out)) hb); clear HB; have HB := n0_; clear n0_; (try clear hb); (try clear hb2); (try clear hk); (try clear hi)) | ((with_reducible refine gate_callee (f := 19) rfl ?_); refine goesL_ (some 28) rfl rfl Try.func19 (by kernel_rfl) rfl #[.int .i64 a0, .slice A1 l1.length c1, .slice A2 l2.length c2] rfl (by (try simp only [List.map_toArray, List.map_cons, List.map_nil]); first | done | rfl | (simp only [List.length_drop, List.length_take]; rfl)) ?_; (with_reducible refine (peel_Known.calls k a0 _ _ l1 _ _ l2 t311 t312 _ ?side1 ?side2 ?side3 ?side4 A6.out).mono ?_); (case side1 => repeat (first | exact (Kd.C_below HR1.out HB.out) | (with_reducible refine Kd.C_alloc ?_ _) | (with_reducible refine Kd.C_drewN ?_ _) | (with_reducible refine Kd.C_drew ?_))); (case side2 => exact HC1.out); (case side3 => repeat (first | exact (Kd.C_below HR2.out HB.out) | (with_reducible refine Kd.C_alloc ?_ _) | (with_reducible refine Kd.C_drewN ?_ _) | (with_reducible refine Kd.C_drew ?_))); (case side4 => exact HC2.out); rintro e w15 ⟨v313, rfl, ho0, hb⟩; refine ⟨_, rfl, ?_⟩; have n0_ := Aside0.mk (Kd.R_lower ho0 (below_size (by repeat (first | (with_reducible first | exact HB.out | apply below_alloc | apply pw_below_drewN | apply below_drew1) | exact HB.out)))); have n1_ := Aside0.mk (below_step (by repeat (first | (with_reducible first | exact HB.out | apply below_alloc | apply pw_below_drewN | apply below_drew1) | exact HB.out)) hb); clear HB; have HO314 := n0_; have HB := n1_; clear n0_ n1_; (try clear hb); (try clear hb2); (try clear hk); (try clear hi); (try clear ho0); obtain ⟨Ao16, co16, eo16⟩ := Kd.R_slice HO314.out; subst eo16) | ((with_reducible refine gate_callee (f := 19) rfl ?_); refine goesL_ (some 43) rfl rfl Try.func19 (by kernel_rfl) rfl #[.int .i64 a0, .slice A1 l1.length c1, .slice Ao16 t311.length co16] rfl (by (try simp only [List.map_toArray, List.map_cons, List.map_nil]); first | done | rfl | (simp only [List.length_drop, List.length_take]; rfl)) ?_; (with_reducible refine (peel_Known.calls k a0 _ _ l1 _ _ t311 t316 t317 _ ?side1 ?side2 ?side3 ?side4 A8.out).mono ?_); (case side1 => repeat (first | exact (Kd.C_below HR1.out HB.out) | (with_reducible refine Kd.C_alloc ?_ _) | (with_reducible refine Kd.C_drewN ?_ _) | (with_reducible refine Kd.C_drew ?_))); (case side2 => exact HC1.out); (case side3 => repeat (first | exact (Kd.R_reads' HO314.out).2.2 | (with_reducible refine Kd.C_alloc ?_ _) | (with_reducible refine Kd.C_drewN ?_ _) | (with_reducible refine Kd.C_drew ?_))); (case side4 => exact (Kd.R_reads' HO314.out).2.1); rintro e w17 ⟨v318, rfl, ho0, hb⟩; refine ⟨_, rfl, ?_⟩; have n0_ := Aside0.mk (Kd.R_elder' (by (with_reducible repeat (first | apply Kd.R_alloc | apply Kd.R_drewN | apply Kd.R_drew)); exact HO314.out) (Kd.R_base ho0) hb); have n1_ := Aside0.mk (Kd.R_lower (Kd.R_new' ho0 (Kd.R_lt (by (with_reducible repeat (first | apply Kd.R_alloc | apply Kd.R_drewN | apply Kd.R_drew)); exact HO314.out))) (below_size (by repeat (first | (with_reducible first | exact HB.out | apply below_alloc | apply pw_below_drewN | apply below_drew1) | exact HB.out)))); have n2_ := Aside0.mk (below_step (by repeat (first | (with_reducible first | exact HB.out | apply below_alloc | apply pw_below_drewN | apply below_drew1) | exact HB.out)) hb); clear HO314; clear HB; have HO314 := n0_; have HO319 := n1_; have HB := n2_; clear n0_ n1_ n2_; (try clear hb); (try clear hb2); (try clear hk); (try clear hi); (try clear ho0); have q18 : ((ji9) : Int) ≤ ((l1.length : Int) : Int) := of_decide_eq_true (by first | (with_reducible assumption) | assumption); obtain ⟨i018, hi018, _, hsz18, _⟩ := info_parts info23; have hroom18 : l1.length ≤ c1 := HC1.out; have hC18 : Kd.C (Kd.slice 3 (Kd.int .i64)) _ A1 l1.length l1 := HR1.out; have hcut18 := cut_to (P := Try.prog) 22 23 .i64 Try.underlying22 hi018 A1 l1.length c1 (ji9) (of_decide_eq_true (by first | (with_reducible assumption) | assumption)) q18 hroom18; have hr18 := Kd.C_take (m := ((ji9) : Int).toNat) hC18 (by omega); have hy18 : y320.length = ((ji9) : Int).toNat := (by rw [Ny320.out, List.length_take]; omega); rw [← Ny320.out] at hr18; rw [← hy18] at hcut18; have HR323 := Aside0.mk hr18; have HC323 := Aside0.mk (show y320.length ≤ c1 from by omega); clear hr18 hC18 hroom18 hi018 hsz18; have KY18 := Aside0.mk hy18; clear hy18; replace q18 := eq_true q18) | ((with_reducible refine gate_callee (f := 19) rfl ?_); refine goesL_ (some 54) rfl rfl Try.func19 (by kernel_rfl) rfl #[.int .i64 a0, .slice A1 y320.length c1, .slice A2 l2.length c2] rfl (by (try simp only [List.map_toArray, List.map_cons, List.map_nil]); first | done | rfl | (simp only [List.length_drop, List.length_take]; rfl)) ?_; (with_reducible refine (peel_Known.calls k a0 _ _ y320 _ _ l2 t324 t325 _ ?side1 ?side2 ?side3 ?side4 A12.out).mono ?_); (case side1 => repeat (first | exact (Kd.C_below HR323.out HB.out) | (with_reducible refine Kd.C_alloc ?_ _) | (with_reducible refine Kd.C_drewN ?_ _) | (with_reducible refine Kd.C_drew ?_))); (case side2 => exact HC323.out); (case side3 => repeat (first | exact (Kd.C_below HR2.out HB.out) | (with_reducible refine Kd.C_alloc ?_ _) | (with_reducible refine Kd.C_drewN ?_ _) | (with_reducible refine Kd.C_drew ?_))); (case side4 => exact HC2.out); rintro e w19 ⟨v326, rfl, ho0, hb⟩; refine ⟨_, rfl, ?_⟩; have n0_ := Aside0.mk (Kd.R_elder' (by (with_reducible repeat (first | apply Kd.R_alloc | apply Kd.R_drewN | apply Kd.R_drew)); exact HO314.out) (Kd.R_base ho0) hb); have n1_ := Aside0.mk (Kd.R_elder' (by (with_reducible repeat (first | apply Kd.R_alloc | apply Kd.R_drewN | apply Kd.R_drew)); exact HO319.out) (Kd.R_base ho0) hb); have n2_ := Aside0.mk (Kd.R_lower (Kd.R_new' (Kd.R_new' ho0 (Kd.R_lt (by (with_reducible repeat (first | apply Kd.R_alloc | apply Kd.R_drewN | apply Kd.R_drew)); exact HO314.out))) (Kd.R_lt (by (with_reducible repeat (first | apply Kd.R_alloc | apply Kd.R_drewN | apply Kd.R_drew)); exact HO319.out))) (below_size (by repeat (first | (with_reducible first | exact HB.out | apply below_alloc | apply pw_below_drewN | apply below_drew1) | exact HB.out)))); have n3_ := Aside0.mk (below_step (by repeat (first | (with_reducible first | exact HB.out | apply below_alloc | apply pw_below_drewN | apply below_drew1) | exact HB.out)) hb); clear HO314; clear HO319; clear HB; have HO314 := n0_; have HO319 := n1_; have HO327 := n2_; have HB := n3_; clear n0_ n1_ n2_ n3_; (try clear hb); (try clear hb2); (try clear hk); (try clear hi); (try clear ho0)))
     (try simp only [Act.put, List.setIfInBounds_toArray, List.set_cons_zero, List.set_cons_succ])
     go_cut [68] (fun v68 wc => ∃ (kq : Nat) (x68_12 : Bool), v68 = .bool x68_12 ∧ Aside0 (mosaiclaw13_PeelGrows.j0 kq a0 l1 l2 t311 t324 x68_12 = some r) ∧ Aside0 (kq ≤ k) ∧ Aside0 (Kd.R (Kd.int .i64) 3 wc w.heap.size (fun k_ => some k_ ≠ (v326 : Value).ownBlock) (.slice Ao16 t311.length co16) t311) ∧ Aside0 (Kd.R (Kd.int .i64) 3 wc w.heap.size (fun k_ => some k_ ≠ ((.slice Ao16 t311.length co16) : Value).ownBlock) v326 t324) ∧ Aside0 (Below w.heap.size w wc))
     case first =>
      have H := HC13.out
      clear HC13
      by_cases c20 : t317 = 0
      ·
       rw [if_pos c20] at H
       have c20b0 : (t317 == 0) = true := beq_iff_eq.mpr c20
       have c20b1 : (t317 != 0) = false := bne_eq_false_iff_eq.mpr c20
       clear c20
       (first | rw [c20b0] | (simp only [i64_w, i32_w]; rw [c20b0]) | skip)
       by_cases c21 : t325 = 0
       ·
        rw [if_pos c21] at H
        have c21b0 : (t325 == 0) = true := beq_iff_eq.mpr c21
        have c21b1 : (t325 != 0) = false := bne_eq_false_iff_eq.mpr c21
        clear c21
        replace H := Option.bind_eq_some_iff.mp H
        obtain ⟨t328, A220, H⟩ := H
        replace H : (mosaiclaw13_PeelGrows.j0 k a0 l1 l2 t311 t324 (!t328)) = some r := H
        have A22 := Aside0.mk A220
        clear A220
        have H' := Aside0.mk H
        clear H
        obtain ⟨Ao23, co23, eo23⟩ := Kd.R_slice HO319.out
        subst eo23
        go_wp2_with (first | (go_at_call 20; (with_reducible refine (mosaicref04_Same.calls k _ _ t311 _ _ t316 t328 _ ?side1 ?side2 ?side3 ?side4 A22.out).mono ?_); (case side1 => repeat (first | exact (Kd.R_reads' HO314.out).2.2 | (with_reducible refine Kd.C_alloc ?_ _) | (with_reducible refine Kd.C_drewN ?_ _) | (with_reducible refine Kd.C_drew ?_))); (case side2 => exact (Kd.R_reads' HO314.out).2.1); (case side3 => repeat (first | exact (Kd.R_reads' HO319.out).2.2 | (with_reducible refine Kd.C_alloc ?_ _) | (with_reducible refine Kd.C_drewN ?_ _) | (with_reducible refine Kd.C_drew ?_))); (case side4 => exact (Kd.R_reads' HO319.out).2.1); rintro e w' ⟨rfl, ⟨nd, rfl⟩⟩))
        go_meet
        case rel => exact ⟨_, (!t328), (by first | rfl | (simp; done) | (simp [*]; done)), H', ⟨by first | omega | exact Nat.le_refl _⟩, ⟨by (with_reducible repeat (first | apply Kd.R_alloc | apply Kd.R_drewN | apply Kd.R_drew)); exact Kd.R_mono HO314.out (fun _ hk => hk.2)⟩, ⟨by (with_reducible repeat (first | apply Kd.R_alloc | apply Kd.R_drewN | apply Kd.R_drew)); exact Kd.R_mono HO327.out (fun _ hk => hk.1.2)⟩, ⟨by repeat (first | (with_reducible first | exact HB.out | apply below_alloc | apply pw_below_drewN | apply below_drew1) | exact HB.out)⟩⟩
       ·
        rw [if_neg c21] at H
        have c21b0 : (t325 == 0) = false := beq_eq_false_iff_ne.mpr c21
        have c21b1 : (t325 != 0) = true := bne_iff_ne.mpr c21
        have H' := Aside0.mk H
        clear H
        go_wp2
        go_meet
        case rel => exact ⟨_, (true), (by first | rfl | (simp; done) | (simp [*]; done)), H', ⟨by first | omega | exact Nat.le_refl _⟩, ⟨by (with_reducible repeat (first | apply Kd.R_alloc | apply Kd.R_drewN | apply Kd.R_drew)); exact Kd.R_mono HO314.out (fun _ hk => hk.2)⟩, ⟨by (with_reducible repeat (first | apply Kd.R_alloc | apply Kd.R_drewN | apply Kd.R_drew)); exact Kd.R_mono HO327.out (fun _ hk => hk.1.2)⟩, ⟨by repeat (first | (with_reducible first | exact HB.out | apply below_alloc | apply pw_below_drewN | apply below_drew1) | exact HB.out)⟩⟩
      ·
       rw [if_neg c20] at H
       have c20b0 : (t317 == 0) = false := beq_eq_false_iff_ne.mpr c20
       have c20b1 : (t317 != 0) = true := bne_iff_ne.mpr c20
       (first | rw [c20b0] | (simp only [i64_w, i32_w]; rw [c20b0]) | skip)
       have H' := Aside0.mk H
       clear H
       go_wp2
       go_meet
       case rel => exact ⟨_, (true), (by first | rfl | (simp; done) | (simp [*]; done)), H', ⟨by first | omega | exact Nat.le_refl _⟩, ⟨by (with_reducible repeat (first | apply Kd.R_alloc | apply Kd.R_drewN | apply Kd.R_drew)); exact Kd.R_mono HO314.out (fun _ hk => hk.2)⟩, ⟨by (with_reducible repeat (first | apply Kd.R_alloc | apply Kd.R_drewN | apply Kd.R_drew)); exact Kd.R_mono HO327.out (fun _ hk => hk.1.2)⟩, ⟨by repeat (first | (with_reducible first | exact HB.out | apply below_alloc | apply pw_below_drewN | apply below_drew1) | exact HB.out)⟩⟩
     case rest =>
      clear HC13
      try clear c1
      try clear q1
      try clear c2
      try clear p2
      try clear c4
      try clear c5
      try clear p6
      try clear c7
      try clear c7b0
      try clear c7b1
      try clear c10
      try clear c10b0
      try clear c10b1
      try clear c11
      try clear c11b0
      try clear c11b1
      try clear c17
      try clear q18
      try clear c19
      try clear c20
      try clear c20b0
      try clear c20b1
      try clear c21
      try clear c21b0
      try clear c21b1
      try clear q18
      obtain ⟨kq, x68_12, rfl, HA, HJ12, HO_7, HO_11, HB⟩ := hcut
      cases kq with
      | zero => exact absurd HA.out (by simp [mosaiclaw13_PeelGrows.j0])
      | succ kj12 =>
       have H := HA.out
       clear HA
       simp only [mosaiclaw13_PeelGrows.j0] at H
       by_cases c24 : x68_12 = true
       ·
        subst c24
        have H1 : (some false) = some r := by rw [if_pos rfl] at H; exact H
        clear H
        have H := H1
        clear H1
        obtain rfl := Option.some.inj H
        go_wp2
        go_ret
        exact ⟨by first | rfl | (simp [errW_none, errW_some] <;> rfl) | (simp only [← hji9]; first | rfl | (simp [errW_none, errW_some] <;> rfl)) | (simp [*, errW_none, errW_some] <;> rfl), by repeat (first | (with_reducible first | exact HB.out | apply below_alloc | apply pw_below_drewN | apply below_drew1) | exact HB.out)⟩
       ·
        replace c24 := Bool.eq_false_iff.mpr c24
        subst c24
        have H1 : (mosaiclaw13_PeelGrows.l0 kj12 a0 l1 l2 t311 t324 0) = some r := by rw [if_neg (show ¬ (false = true) by decide)] at H; exact H
        clear H
        have H := H1
        clear H1
        have H' := Aside0.mk H
        clear H
        go_wp2
        go_loopg [13] kj12 (fun kq v13 w' => ∃ (x13_2 : Int), v13 = .int .i64 x13_2 ∧ Aside0 (mosaiclaw13_PeelGrows.l0 kq a0 l1 l2 t311 t324 x13_2 = some r) ∧ Aside0 (kq ≤ kj12) ∧ Aside0 (Kd.R (Kd.int .i64) 3 w' w.heap.size (fun k_ => some k_ ≠ (v326 : Value).ownBlock) (.slice Ao16 t311.length co16) t311) ∧ Aside0 (Kd.R (Kd.int .i64) 3 w' w.heap.size (fun k_ => some k_ ≠ ((.slice Ao16 t311.length co16) : Value).ownBlock) v326 t324) ∧ Aside0 (Below w.heap.size w w'))
        case atStart => exact ⟨(0), (by first | rfl | (simp; done) | (simp [*]; done)), H', ⟨Nat.le_refl _⟩, ⟨by (with_reducible repeat (first | apply Kd.R_alloc | apply Kd.R_drewN | apply Kd.R_drew)); exact HO_7.out⟩, ⟨by (with_reducible repeat (first | apply Kd.R_alloc | apply Kd.R_drewN | apply Kd.R_drew)); exact HO_11.out⟩, ⟨by repeat (first | (with_reducible first | exact HB.out | apply below_alloc | apply pw_below_drewN | apply below_drew1) | exact HB.out)⟩⟩
        case round =>
         clear H'
         try clear c1
         try clear q1
         try clear c2
         try clear p2
         try clear c4
         try clear c5
         try clear p6
         try clear c7
         try clear c7b0
         try clear c7b1
         try clear c10
         try clear c10b0
         try clear c10b1
         try clear c11
         try clear c11b0
         try clear c11b1
         try clear c17
         try clear q18
         try clear c19
         try clear c20
         try clear c20b0
         try clear c20b1
         try clear c21
         try clear c21b0
         try clear c21b1
         try clear c24
         try clear p2
         try clear p6
         try clear q1
         try clear q18
         obtain ⟨x13_2, rfl, HA, HK2, HO_7, HO_11, HB⟩ := hrel
         cases gk with
         | zero => exact absurd HA.out (by simp [mosaiclaw13_PeelGrows.l0])
         | succ k2 =>
          have H := HA.out
          clear HA
          simp only [mosaiclaw13_PeelGrows.l0] at H
          by_cases c25 : x13_2 < (t324.length : Int)
          ·
           rw [if_pos c25] at H
           have c25b0 : decide (x13_2 < (t324.length : Int)) = true := decide_eq_true c25
           clear c25
           by_cases c26 : 0 ≤ x13_2
           ·
            rw [if_pos c26] at H
            have c26b0 : decide (0 ≤ x13_2) = true := decide_eq_true c26
            clear c26
            replace H := Option.bind_eq_some_iff.mp H
            obtain ⟨t330, A270, H⟩ := H
            replace H : (if t330 = true then (mosaiclaw13_PeelGrows.l0 k2 a0 l1 l2 t311 t324 (wrap64 (x13_2 + 1))) else (some false)) = some r := H
            have A27 := Aside0.mk A270
            clear A270
            by_cases c28 : t330 = true
            ·
             subst c28
             have H1 : (mosaiclaw13_PeelGrows.l0 k2 a0 l1 l2 t311 t324 (wrap64 (x13_2 + 1))) = some r := by rw [if_pos rfl] at H; exact H
             clear H
             have H := H1
             clear H1
             have H' := Aside0.mk H
             clear H
             obtain ⟨Ao29, co29, eo29⟩ := Kd.R_slice HO_11.out
             subst eo29
             have p329 : 0 ≤ (x13_2 : Int) := of_decide_eq_true (by first | (with_reducible assumption) | assumption)
             have q329 : x13_2 < (t324.length : Int) := of_decide_eq_true (by first | (with_reducible assumption) | assumption)
             obtain ⟨ad329, e329, hx329_0⟩ := Kd.at_int (Kd.R_reads' HO_11.out).2.2 x13_2 p329 q329
             cases e329
             replace p329 := eq_true p329
             replace q329 := eq_true q329
             go_wp2_with (first | ((with_reducible refine gate_callee (f := 21) rfl ?_); refine goesL_ (some 80) rfl rfl Try.func21 (by kernel_rfl) rfl #[.slice Ao16 t311.length co16, .int .i64 (rd t324 x13_2)] rfl (by (try simp only [List.map_toArray, List.map_cons, List.map_nil]); first | done | rfl | (simp only [List.length_drop, List.length_take]; rfl)) ?_; (with_reducible refine (mosaicref09_Has.calls k2 _ _ t311 (rd t324 x13_2) true _ ?side1 ?side2 A27.out).mono ?_); (case side1 => repeat (first | exact (Kd.R_reads' HO_7.out).2.2 | (with_reducible refine Kd.C_alloc ?_ _) | (with_reducible refine Kd.C_drewN ?_ _) | (with_reducible refine Kd.C_drew ?_))); (case side2 => exact (Kd.R_reads' HO_7.out).2.1); rintro e w' ⟨rfl, ⟨nd, rfl⟩⟩; refine ⟨_, rfl, ?_⟩))
             go_roundg k2
             case measure => have := HJ12.out; have := HK2.out; omega
             case rel => exact ⟨(wrap64 (x13_2 + 1)), (by first | rfl | (simp; done) | (simp [*]; done)), H', ⟨by have := HJ12.out; have := HK2.out; omega⟩, ⟨by (with_reducible repeat (first | apply Kd.R_alloc | apply Kd.R_drewN | apply Kd.R_drew)); exact HO_7.out⟩, ⟨by (with_reducible repeat (first | apply Kd.R_alloc | apply Kd.R_drewN | apply Kd.R_drew)); exact HO_11.out⟩, ⟨by repeat (first | (with_reducible first | exact HB.out | apply below_alloc | apply pw_below_drewN | apply below_drew1) | exact HB.out)⟩⟩
            ·
             replace c28 := Bool.eq_false_iff.mpr c28
             subst c28
             have H1 : (some false) = some r := by rw [if_neg (show ¬ (false = true) by decide)] at H; exact H
             clear H
             have H := H1
             clear H1
             obtain rfl := Option.some.inj H
             obtain ⟨Ao30, co30, eo30⟩ := Kd.R_slice HO_11.out
             subst eo30
             have p329 : 0 ≤ (x13_2 : Int) := of_decide_eq_true (by first | (with_reducible assumption) | assumption)
             have q329 : x13_2 < (t324.length : Int) := of_decide_eq_true (by first | (with_reducible assumption) | assumption)
             obtain ⟨ad329, e329, hx329_0⟩ := Kd.at_int (Kd.R_reads' HO_11.out).2.2 x13_2 p329 q329
             cases e329
             replace p329 := eq_true p329
             replace q329 := eq_true q329
             go_wp2_with (first | ((with_reducible refine gate_callee (f := 21) rfl ?_); refine goesL_ (some 80) rfl rfl Try.func21 (by kernel_rfl) rfl #[.slice Ao16 t311.length co16, .int .i64 (rd t324 x13_2)] rfl (by (try simp only [List.map_toArray, List.map_cons, List.map_nil]); first | done | rfl | (simp only [List.length_drop, List.length_take]; rfl)) ?_; (with_reducible refine (mosaicref09_Has.calls k2 _ _ t311 (rd t324 x13_2) false _ ?side1 ?side2 A27.out).mono ?_); (case side1 => repeat (first | exact (Kd.R_reads' HO_7.out).2.2 | (with_reducible refine Kd.C_alloc ?_ _) | (with_reducible refine Kd.C_drewN ?_ _) | (with_reducible refine Kd.C_drew ?_))); (case side2 => exact (Kd.R_reads' HO_7.out).2.1); rintro e w' ⟨rfl, ⟨nd, rfl⟩⟩; refine ⟨_, rfl, ?_⟩))
             go_ret
             exact ⟨by first | rfl | (simp [errW_none, errW_some] <;> rfl) | (simp only [← hji9]; first | rfl | (simp [errW_none, errW_some] <;> rfl)) | (simp [*, errW_none, errW_some] <;> rfl), by repeat (first | (with_reducible first | exact HB.out | apply below_alloc | apply pw_below_drewN | apply below_drew1) | exact HB.out)⟩
           ·
            rw [if_neg c26] at H
            exact absurd H (by simp)
          ·
           rw [if_neg c25] at H
           have c25b0 : decide (x13_2 < (t324.length : Int)) = false := decide_eq_false c25
           clear c25
           have H' := Aside0.mk H
           clear H
           obtain ⟨Ao31, co31, eo31⟩ := Kd.R_slice HO_11.out
           subst eo31
           go_wp2
           go_loopg [14] k2 (fun kq v14 w' => ∃ (x14_3 : Int), v14 = .int .i64 x14_3 ∧ Aside0 (mosaiclaw13_PeelGrows.l1 kq a0 l1 l2 t311 x14_3 = some r) ∧ Aside0 (kq ≤ k2) ∧ Aside0 (Kd.R (Kd.int .i64) 3 w' w.heap.size (fun _ => True) (.slice Ao16 t311.length co16) t311) ∧ Aside0 (Below w.heap.size w w'))
           case atStart => exact ⟨(0), (by first | rfl | (simp; done) | (simp [*]; done)), H', ⟨Nat.le_refl _⟩, ⟨by (with_reducible repeat (first | apply Kd.R_alloc | apply Kd.R_drewN | apply Kd.R_drew)); exact Kd.R_mono HO_7.out (fun _ hk => trivial)⟩, ⟨by repeat (first | (with_reducible first | exact HB.out | apply below_alloc | apply pw_below_drewN | apply below_drew1) | exact HB.out)⟩⟩
           case round =>
            clear H'
            try clear c1
            try clear q1
            try clear c2
            try clear p2
            try clear p3
            try clear q3
            try clear hx3
            try clear c4
            try clear c5
            try clear p6
            try clear c7
            try clear c7b0
            try clear c7b1
            try clear c10
            try clear c10b0
            try clear c10b1
            try clear c11
            try clear c11b0
            try clear c11b1
            try clear c17
            try clear q18
            try clear c19
            try clear c20
            try clear c20b0
            try clear c20b1
            try clear c21
            try clear c21b0
            try clear c21b1
            try clear c24
            try clear c25
            try clear c25b0
            try clear c26
            try clear c26b0
            try clear c28
            try clear hx329_0
            try clear p2
            try clear p329
            try clear p6
            try clear q1
            try clear q18
            try clear q329
            obtain ⟨x14_3, rfl, HA, HK3, HO_7, HB⟩ := hrel
            cases gk with
            | zero => exact absurd HA.out (by simp [mosaiclaw13_PeelGrows.l1])
            | succ k3 =>
             have H := HA.out
             clear HA
             simp only [mosaiclaw13_PeelGrows.l1] at H
             by_cases c32 : x14_3 < (l2.length : Int)
             ·
              rw [if_pos c32] at H
              have c32b0 : decide (x14_3 < (l2.length : Int)) = true := decide_eq_true c32
              clear c32
              by_cases c33 : 0 ≤ x14_3
              ·
               rw [if_pos c33] at H
               have c33b0 : decide (0 ≤ x14_3) = true := decide_eq_true c33
               clear c33
               replace H := Option.bind_eq_some_iff.mp H
               obtain ⟨t332, A340, H⟩ := H
               replace H : (if t332 = true then (mosaiclaw13_PeelGrows.l1 k3 a0 l1 l2 t311 (wrap64 (x14_3 + 1))) else (some false)) = some r := H
               have A34 := Aside0.mk A340
               clear A340
               by_cases c35 : t332 = true
               ·
                subst c35
                have H1 : (mosaiclaw13_PeelGrows.l1 k3 a0 l1 l2 t311 (wrap64 (x14_3 + 1))) = some r := by rw [if_pos rfl] at H; exact H
                clear H
                have H := H1
                clear H1
                have H' := Aside0.mk H
                clear H
                have p331 : 0 ≤ (x14_3 : Int) := of_decide_eq_true (by first | (with_reducible assumption) | assumption)
                have q331 : x14_3 < (l2.length : Int) := of_decide_eq_true (by first | (with_reducible assumption) | assumption)
                obtain ⟨ad331, e331, hx331_0⟩ := Kd.at_int HR2.out x14_3 p331 q331
                cases e331
                replace hx331_0 := (HB.out.cell (World.block_lt_of_cell? w _ hx331_0)).trans hx331_0
                replace p331 := eq_true p331
                replace q331 := eq_true q331
                go_wp2_with (first | ((with_reducible refine gate_callee (f := 21) rfl ?_); refine goesL_ (some 93) rfl rfl Try.func21 (by kernel_rfl) rfl #[.slice Ao16 t311.length co16, .int .i64 (rd l2 x14_3)] rfl (by (try simp only [List.map_toArray, List.map_cons, List.map_nil]); first | done | rfl | (simp only [List.length_drop, List.length_take]; rfl)) ?_; (with_reducible refine (mosaicref09_Has.calls k3 _ _ t311 (rd l2 x14_3) true _ ?side1 ?side2 A34.out).mono ?_); (case side1 => repeat (first | exact (Kd.R_reads' HO_7.out).2.2 | (with_reducible refine Kd.C_alloc ?_ _) | (with_reducible refine Kd.C_drewN ?_ _) | (with_reducible refine Kd.C_drew ?_))); (case side2 => exact (Kd.R_reads' HO_7.out).2.1); rintro e w' ⟨rfl, ⟨nd, rfl⟩⟩; refine ⟨_, rfl, ?_⟩))
                go_roundg k3
                case measure => have := HJ12.out; have := HK2.out; have := HK3.out; omega
                case rel => exact ⟨(wrap64 (x14_3 + 1)), (by first | rfl | (simp; done) | (simp [*]; done)), H', ⟨by have := HJ12.out; have := HK2.out; have := HK3.out; omega⟩, ⟨by (with_reducible repeat (first | apply Kd.R_alloc | apply Kd.R_drewN | apply Kd.R_drew)); exact HO_7.out⟩, ⟨by repeat (first | (with_reducible first | exact HB.out | apply below_alloc | apply pw_below_drewN | apply below_drew1) | exact HB.out)⟩⟩
               ·
                replace c35 := Bool.eq_false_iff.mpr c35
                subst c35
                have H1 : (some false) = some r := by rw [if_neg (show ¬ (false = true) by decide)] at H; exact H
                clear H
                have H := H1
                clear H1
                obtain rfl := Option.some.inj H
                have p331 : 0 ≤ (x14_3 : Int) := of_decide_eq_true (by first | (with_reducible assumption) | assumption)
                have q331 : x14_3 < (l2.length : Int) := of_decide_eq_true (by first | (with_reducible assumption) | assumption)
                obtain ⟨ad331, e331, hx331_0⟩ := Kd.at_int HR2.out x14_3 p331 q331
                cases e331
                replace hx331_0 := (HB.out.cell (World.block_lt_of_cell? w _ hx331_0)).trans hx331_0
                replace p331 := eq_true p331
                replace q331 := eq_true q331
                go_wp2_with (first | ((with_reducible refine gate_callee (f := 21) rfl ?_); refine goesL_ (some 93) rfl rfl Try.func21 (by kernel_rfl) rfl #[.slice Ao16 t311.length co16, .int .i64 (rd l2 x14_3)] rfl (by (try simp only [List.map_toArray, List.map_cons, List.map_nil]); first | done | rfl | (simp only [List.length_drop, List.length_take]; rfl)) ?_; (with_reducible refine (mosaicref09_Has.calls k3 _ _ t311 (rd l2 x14_3) false _ ?side1 ?side2 A34.out).mono ?_); (case side1 => repeat (first | exact (Kd.R_reads' HO_7.out).2.2 | (with_reducible refine Kd.C_alloc ?_ _) | (with_reducible refine Kd.C_drewN ?_ _) | (with_reducible refine Kd.C_drew ?_))); (case side2 => exact (Kd.R_reads' HO_7.out).2.1); rintro e w' ⟨rfl, ⟨nd, rfl⟩⟩; refine ⟨_, rfl, ?_⟩))
                go_ret
                exact ⟨by first | rfl | (simp [errW_none, errW_some] <;> rfl) | (simp only [← hji9]; first | rfl | (simp [errW_none, errW_some] <;> rfl)) | (simp [*, errW_none, errW_some] <;> rfl), by repeat (first | (with_reducible first | exact HB.out | apply below_alloc | apply pw_below_drewN | apply below_drew1) | exact HB.out)⟩
              ·
               rw [if_neg c33] at H
               exact absurd H (by simp)
             ·
              rw [if_neg c32] at H
              have c32b0 : decide (x14_3 < (l2.length : Int)) = false := decide_eq_false c32
              clear c32
              by_cases c36 : (l2.length : Int) > 0
              ·
               rw [if_pos c36] at H
               have c36b0 : decide (0 < (l2.length : Int)) = true := decide_eq_true c36
               have c36b1 : decide (0 < l2.length) = true := decide_eq_true (by omega)
               clear c36
               by_cases c37 : 1 ≤ (l2.length : Int)
               ·
                rw [if_pos c37] at H
                have c37b0 := eq_true c37
                have c37b1 : decide (1 ≤ (l2.length : Int)) = true := decide_eq_true c37
                clear c37
                replace H := Option.bind_eq_some_iff.mp H
                obtain ⟨⟨t334, t335⟩, A380, H⟩ := H
                replace H : (if t335 = 0 then (mosaiclaw13_PeelGrows.l2 k3 t311 t334 0) else (some false)) = some r := H
                have A38 := Aside0.mk A380
                clear A380
                by_cases c39 : t335 = 0
                ·
                 rw [if_pos c39] at H
                 have c39b0 : (t335 == 0) = true := beq_iff_eq.mpr c39
                 have c39b1 : (t335 != 0) = false := bne_eq_false_iff_eq.mpr c39
                 clear c39
                 have H' := Aside0.mk H
                 clear H
                 obtain ⟨i040, hi040, _, hsz40, _⟩ := info_parts info3
                 obtain ⟨A40, hcut40, hA40, hC40⟩ := print_drop_of (P := Try.prog) (Value.int .i64) 0 23 3 .i64 Try.underlying23 hi040 hsz40 A2 c2 l2 1 (by omega) (of_decide_eq_true (by first | (with_reducible assumption) | assumption)) HC2.out
                 have HR333 := Aside0.mk (Kd.C_of_reads (h1 := fun _ => rfl) (hA40 _ (Kd.reads_of_C HR2.out)))
                 have HC333 := Aside0.mk hC40
                 clear hA40 hC40 hi040 hsz40
                 go_wp2_with (first | ((with_reducible refine gate_callee (f := 19) rfl ?_); refine goesL_ (some 103) rfl rfl Try.func19 (by kernel_rfl) rfl #[.int .i64 a0, .slice A1 l1.length c1, .slice A40 (l2.drop 1).length (c2 - 1)] rfl (by (try simp only [List.map_toArray, List.map_cons, List.map_nil]); first | done | (rw [show (l2.drop 1).length = (l2.length - 1) from List.length_drop] <;> rfl) | rfl | (simp only [List.length_drop, List.length_take]; rfl)) ?_; (with_reducible refine (peel_Known.calls k3 a0 _ _ l1 _ _ (l2.drop 1) t334 t335 _ ?side1 ?side2 ?side3 ?side4 A38.out).mono ?_); (case side1 => repeat (first | exact (Kd.C_below HR1.out HB.out) | (with_reducible refine Kd.C_alloc ?_ _) | (with_reducible refine Kd.C_drewN ?_ _) | (with_reducible refine Kd.C_drew ?_))); (case side2 => exact HC1.out); (case side3 => repeat (first | exact (Kd.C_below HR333.out HB.out) | (with_reducible refine Kd.C_alloc ?_ _) | (with_reducible refine Kd.C_drewN ?_ _) | (with_reducible refine Kd.C_drew ?_))); (case side4 => exact HC333.out); rintro e w41 ⟨v336, rfl, ho0, hb⟩; refine ⟨_, rfl, ?_⟩; have n0_ := Aside0.mk (Kd.R_elder' (by (with_reducible repeat (first | apply Kd.R_alloc | apply Kd.R_drewN | apply Kd.R_drew)); exact HO_7.out) (Kd.R_base ho0) hb); have n1_ := Aside0.mk (Kd.R_lower (Kd.R_new' ho0 (Kd.R_lt (by (with_reducible repeat (first | apply Kd.R_alloc | apply Kd.R_drewN | apply Kd.R_drew)); exact HO_7.out))) (below_size (by repeat (first | (with_reducible first | exact HB.out | apply below_alloc | apply pw_below_drewN | apply below_drew1) | exact HB.out)))); have n2_ := Aside0.mk (below_step (by repeat (first | (with_reducible first | exact HB.out | apply below_alloc | apply pw_below_drewN | apply below_drew1) | exact HB.out)) hb); clear HO_7; clear HB; have HO_7 := n0_; have HO337 := n1_; have HB := n2_; clear n0_ n1_ n2_; (try clear hb); (try clear hb2); (try clear hk); (try clear hi); (try clear ho0)))
                 go_loopg [17] k3 (fun kq v17 w' => ∃ (x17_4 : Int), v17 = .int .i64 x17_4 ∧ Aside0 (mosaiclaw13_PeelGrows.l2 kq t311 t334 x17_4 = some r) ∧ Aside0 (kq ≤ k3) ∧ Aside0 (Kd.R (Kd.int .i64) 3 w' w.heap.size (fun k_ => some k_ ≠ (v336 : Value).ownBlock) (.slice Ao16 t311.length co16) t311) ∧ Aside0 (Kd.R (Kd.int .i64) 3 w' w.heap.size (fun k_ => some k_ ≠ ((.slice Ao16 t311.length co16) : Value).ownBlock) v336 t334) ∧ Aside0 (Below w.heap.size w w'))
                 case atStart => exact ⟨(0), (by first | rfl | (simp; done) | (simp [*]; done)), H', ⟨Nat.le_refl _⟩, ⟨by (with_reducible repeat (first | apply Kd.R_alloc | apply Kd.R_drewN | apply Kd.R_drew)); exact Kd.R_mono HO_7.out (fun _ hk => hk.2)⟩, ⟨by (with_reducible repeat (first | apply Kd.R_alloc | apply Kd.R_drewN | apply Kd.R_drew)); exact Kd.R_mono HO337.out (fun _ hk => hk.2)⟩, ⟨by repeat (first | (with_reducible first | exact HB.out | apply below_alloc | apply pw_below_drewN | apply below_drew1) | exact HB.out)⟩⟩
                 case round =>
                  clear H'
                  try clear c1
                  try clear q1
                  try clear c2
                  try clear p2
                  try clear c3
                  try clear p3
                  try clear q3
                  try clear hx3
                  try clear c4
                  try clear c5
                  try clear p6
                  try clear c7
                  try clear c7b0
                  try clear c7b1
                  try clear c10
                  try clear c10b0
                  try clear c10b1
                  try clear c11
                  try clear c11b0
                  try clear c11b1
                  try clear c17
                  try clear q18
                  try clear c19
                  try clear c20
                  try clear c20b0
                  try clear c20b1
                  try clear c21
                  try clear c21b0
                  try clear c21b1
                  try clear c24
                  try clear c25
                  try clear c25b0
                  try clear c26
                  try clear c26b0
                  try clear c28
                  try clear c32
                  try clear c32b0
                  try clear p32
                  try clear q32
                  try clear hx32
                  try clear c33
                  try clear c33b0
                  try clear p33
                  try clear q33
                  try clear hx33
                  try clear c35
                  try clear c36
                  try clear c36b0
                  try clear c36b1
                  try clear c37
                  try clear c37b0
                  try clear c37b1
                  try clear c39
                  try clear c39b0
                  try clear c39b1
                  try clear hx329_0
                  try clear hx331_0
                  try clear p2
                  try clear p3
                  try clear p329
                  try clear p331
                  try clear p6
                  try clear q1
                  try clear q18
                  try clear q3
                  try clear q329
                  try clear q331
                  obtain ⟨x17_4, rfl, HA, HK4, HO_7, HO_15, HB⟩ := hrel
                  cases gk with
                  | zero => exact absurd HA.out (by simp [mosaiclaw13_PeelGrows.l2])
                  | succ k4 =>
                   have H := HA.out
                   clear HA
                   simp only [mosaiclaw13_PeelGrows.l2] at H
                   by_cases c42 : x17_4 < (t334.length : Int)
                   ·
                    rw [if_pos c42] at H
                    have c42b0 : decide (x17_4 < (t334.length : Int)) = true := decide_eq_true c42
                    clear c42
                    by_cases c43 : 0 ≤ x17_4
                    ·
                     rw [if_pos c43] at H
                     have c43b0 : decide (0 ≤ x17_4) = true := decide_eq_true c43
                     clear c43
                     replace H := Option.bind_eq_some_iff.mp H
                     obtain ⟨t339, A440, H⟩ := H
                     replace H : (if t339 = true then (mosaiclaw13_PeelGrows.l2 k4 t311 t334 (wrap64 (x17_4 + 1))) else (some false)) = some r := H
                     have A44 := Aside0.mk A440
                     clear A440
                     by_cases c45 : t339 = true
                     ·
                      subst c45
                      have H1 : (mosaiclaw13_PeelGrows.l2 k4 t311 t334 (wrap64 (x17_4 + 1))) = some r := by rw [if_pos rfl] at H; exact H
                      clear H
                      have H := H1
                      clear H1
                      have H' := Aside0.mk H
                      clear H
                      obtain ⟨Ao46, co46, eo46⟩ := Kd.R_slice HO_15.out
                      subst eo46
                      have p338 : 0 ≤ (x17_4 : Int) := of_decide_eq_true (by first | (with_reducible assumption) | assumption)
                      have q338 : x17_4 < (t334.length : Int) := of_decide_eq_true (by first | (with_reducible assumption) | assumption)
                      obtain ⟨ad338, e338, hx338_0⟩ := Kd.at_int (Kd.R_reads' HO_15.out).2.2 x17_4 p338 q338
                      cases e338
                      replace p338 := eq_true p338
                      replace q338 := eq_true q338
                      go_wp2_with (first | ((with_reducible refine gate_callee (f := 21) rfl ?_); refine goesL_ (some 119) rfl rfl Try.func21 (by kernel_rfl) rfl #[.slice Ao16 t311.length co16, .int .i64 (rd t334 x17_4)] rfl (by (try simp only [List.map_toArray, List.map_cons, List.map_nil]); first | done | rfl | (simp only [List.length_drop, List.length_take]; rfl)) ?_; (with_reducible refine (mosaicref09_Has.calls k4 _ _ t311 (rd t334 x17_4) true _ ?side1 ?side2 A44.out).mono ?_); (case side1 => repeat (first | exact (Kd.R_reads' HO_7.out).2.2 | (with_reducible refine Kd.C_alloc ?_ _) | (with_reducible refine Kd.C_drewN ?_ _) | (with_reducible refine Kd.C_drew ?_))); (case side2 => exact (Kd.R_reads' HO_7.out).2.1); rintro e w' ⟨rfl, ⟨nd, rfl⟩⟩; refine ⟨_, rfl, ?_⟩))
                      go_roundg k4
                      case measure => have := HJ12.out; have := HK2.out; have := HK3.out; have := HK4.out; omega
                      case rel => exact ⟨(wrap64 (x17_4 + 1)), (by first | rfl | (simp; done) | (simp [*]; done)), H', ⟨by have := HJ12.out; have := HK2.out; have := HK3.out; have := HK4.out; omega⟩, ⟨by (with_reducible repeat (first | apply Kd.R_alloc | apply Kd.R_drewN | apply Kd.R_drew)); exact HO_7.out⟩, ⟨by (with_reducible repeat (first | apply Kd.R_alloc | apply Kd.R_drewN | apply Kd.R_drew)); exact HO_15.out⟩, ⟨by repeat (first | (with_reducible first | exact HB.out | apply below_alloc | apply pw_below_drewN | apply below_drew1) | exact HB.out)⟩⟩
                     ·
                      replace c45 := Bool.eq_false_iff.mpr c45
                      subst c45
                      have H1 : (some false) = some r := by rw [if_neg (show ¬ (false = true) by decide)] at H; exact H
                      clear H
                      have H := H1
                      clear H1
                      obtain rfl := Option.some.inj H
                      obtain ⟨Ao47, co47, eo47⟩ := Kd.R_slice HO_15.out
                      subst eo47
                      have p338 : 0 ≤ (x17_4 : Int) := of_decide_eq_true (by first | (with_reducible assumption) | assumption)
                      have q338 : x17_4 < (t334.length : Int) := of_decide_eq_true (by first | (with_reducible assumption) | assumption)
                      obtain ⟨ad338, e338, hx338_0⟩ := Kd.at_int (Kd.R_reads' HO_15.out).2.2 x17_4 p338 q338
                      cases e338
                      replace p338 := eq_true p338
                      replace q338 := eq_true q338
                      go_wp2_with (first | ((with_reducible refine gate_callee (f := 21) rfl ?_); refine goesL_ (some 119) rfl rfl Try.func21 (by kernel_rfl) rfl #[.slice Ao16 t311.length co16, .int .i64 (rd t334 x17_4)] rfl (by (try simp only [List.map_toArray, List.map_cons, List.map_nil]); first | done | rfl | (simp only [List.length_drop, List.length_take]; rfl)) ?_; (with_reducible refine (mosaicref09_Has.calls k4 _ _ t311 (rd t334 x17_4) false _ ?side1 ?side2 A44.out).mono ?_); (case side1 => repeat (first | exact (Kd.R_reads' HO_7.out).2.2 | (with_reducible refine Kd.C_alloc ?_ _) | (with_reducible refine Kd.C_drewN ?_ _) | (with_reducible refine Kd.C_drew ?_))); (case side2 => exact (Kd.R_reads' HO_7.out).2.1); rintro e w' ⟨rfl, ⟨nd, rfl⟩⟩; refine ⟨_, rfl, ?_⟩))
                      go_ret
                      exact ⟨by first | rfl | (simp [errW_none, errW_some] <;> rfl) | (simp only [← hji9]; first | rfl | (simp [errW_none, errW_some] <;> rfl)) | (simp [*, errW_none, errW_some] <;> rfl), by repeat (first | (with_reducible first | exact HB.out | apply below_alloc | apply pw_below_drewN | apply below_drew1) | exact HB.out)⟩
                    ·
                     rw [if_neg c43] at H
                     exact absurd H (by simp)
                   ·
                    rw [if_neg c42] at H
                    have c42b0 : decide (x17_4 < (t334.length : Int)) = false := decide_eq_false c42
                    clear c42
                    replace H := Option.bind_eq_some_iff.mp H
                    obtain ⟨t340, A480, H⟩ := H
                    replace H : (some t340) = some r := H
                    have A48 := Aside0.mk A480
                    clear A480
                    obtain rfl := Option.some.inj H
                    obtain ⟨Ao49, co49, eo49⟩ := Kd.R_slice HO_15.out
                    subst eo49
                    go_wp2_with (first | ((with_reducible refine gate_callee (f := 18) rfl ?_); refine goesL_ (some 121) rfl rfl Try.func18 (by kernel_rfl) rfl #[] rfl (by (try simp only [List.map_toArray, List.map_cons, List.map_nil]); first | done | rfl | (simp only [List.length_drop, List.length_take]; rfl)) ?_; (with_reducible refine (mosaiclaw13_awake.calls k4  t340 _ A48.out).mono ?_); rintro e w50 ⟨rfl, hb⟩; refine ⟨_, rfl, ?_⟩; have n0_ := Aside0.mk (Kd.R_below (by (with_reducible repeat (first | apply Kd.R_alloc | apply Kd.R_drewN | apply Kd.R_drew)); exact HO_7.out) hb); have n1_ := Aside0.mk (Kd.R_below (by (with_reducible repeat (first | apply Kd.R_alloc | apply Kd.R_drewN | apply Kd.R_drew)); exact HO_15.out) hb); have n2_ := Aside0.mk (below_step (by repeat (first | (with_reducible first | exact HB.out | apply below_alloc | apply pw_below_drewN | apply below_drew1) | exact HB.out)) hb); clear HO_7; clear HO_15; clear HB; have HO_7 := n0_; have HO_15 := n1_; have HB := n2_; clear n0_ n1_ n2_; (try clear hb); (try clear hb2); (try clear hk); (try clear hi)))
                    go_ret
                    exact ⟨by first | rfl | (simp [errW_none, errW_some] <;> rfl) | (simp only [← hji9]; first | rfl | (simp [errW_none, errW_some] <;> rfl)) | (simp [*, errW_none, errW_some] <;> rfl), by repeat (first | (with_reducible first | exact HB.out | apply below_alloc | apply pw_below_drewN | apply below_drew1) | exact HB.out)⟩
                ·
                 rw [if_neg c39] at H
                 have c39b0 : (t335 == 0) = false := beq_eq_false_iff_ne.mpr c39
                 have c39b1 : (t335 != 0) = true := bne_iff_ne.mpr c39
                 obtain rfl := Option.some.inj H
                 obtain ⟨i051, hi051, _, hsz51, _⟩ := info_parts info3
                 obtain ⟨A51, hcut51, hA51, hC51⟩ := print_drop_of (P := Try.prog) (Value.int .i64) 0 23 3 .i64 Try.underlying23 hi051 hsz51 A2 c2 l2 1 (by omega) (of_decide_eq_true (by first | (with_reducible assumption) | assumption)) HC2.out
                 have HR333 := Aside0.mk (Kd.C_of_reads (h1 := fun _ => rfl) (hA51 _ (Kd.reads_of_C HR2.out)))
                 have HC333 := Aside0.mk hC51
                 clear hA51 hC51 hi051 hsz51
                 go_wp2_with (first | ((with_reducible refine gate_callee (f := 19) rfl ?_); refine goesL_ (some 103) rfl rfl Try.func19 (by kernel_rfl) rfl #[.int .i64 a0, .slice A1 l1.length c1, .slice A51 (l2.drop 1).length (c2 - 1)] rfl (by (try simp only [List.map_toArray, List.map_cons, List.map_nil]); first | done | (rw [show (l2.drop 1).length = (l2.length - 1) from List.length_drop] <;> rfl) | rfl | (simp only [List.length_drop, List.length_take]; rfl)) ?_; (with_reducible refine (peel_Known.calls k3 a0 _ _ l1 _ _ (l2.drop 1) t334 t335 _ ?side1 ?side2 ?side3 ?side4 A38.out).mono ?_); (case side1 => repeat (first | exact (Kd.C_below HR1.out HB.out) | (with_reducible refine Kd.C_alloc ?_ _) | (with_reducible refine Kd.C_drewN ?_ _) | (with_reducible refine Kd.C_drew ?_))); (case side2 => exact HC1.out); (case side3 => repeat (first | exact (Kd.C_below HR333.out HB.out) | (with_reducible refine Kd.C_alloc ?_ _) | (with_reducible refine Kd.C_drewN ?_ _) | (with_reducible refine Kd.C_drew ?_))); (case side4 => exact HC333.out); rintro e w52 ⟨v336, rfl, ho0, hb⟩; refine ⟨_, rfl, ?_⟩; have n0_ := Aside0.mk (Kd.R_elder' (by (with_reducible repeat (first | apply Kd.R_alloc | apply Kd.R_drewN | apply Kd.R_drew)); exact HO_7.out) (Kd.R_base ho0) hb); have n1_ := Aside0.mk (Kd.R_lower (Kd.R_new' ho0 (Kd.R_lt (by (with_reducible repeat (first | apply Kd.R_alloc | apply Kd.R_drewN | apply Kd.R_drew)); exact HO_7.out))) (below_size (by repeat (first | (with_reducible first | exact HB.out | apply below_alloc | apply pw_below_drewN | apply below_drew1) | exact HB.out)))); have n2_ := Aside0.mk (below_step (by repeat (first | (with_reducible first | exact HB.out | apply below_alloc | apply pw_below_drewN | apply below_drew1) | exact HB.out)) hb); clear HO_7; clear HB; have HO_7 := n0_; have HO337 := n1_; have HB := n2_; clear n0_ n1_ n2_; (try clear hb); (try clear hb2); (try clear hk); (try clear hi); (try clear ho0)))
                 go_ret
                 exact ⟨by first | rfl | (simp [errW_none, errW_some] <;> rfl) | (simp only [← hji9]; first | rfl | (simp [errW_none, errW_some] <;> rfl)) | (simp [*, errW_none, errW_some] <;> rfl), by repeat (first | (with_reducible first | exact HB.out | apply below_alloc | apply pw_below_drewN | apply below_drew1) | exact HB.out)⟩
               ·
                rw [if_neg c37] at H
                exact absurd H (by simp)
              ·
               rw [if_neg c36] at H
               have c36b0 : decide (0 < (l2.length : Int)) = false := decide_eq_false c36
               have c36b1 : decide (0 < l2.length) = false := decide_eq_false (by omega)
               clear c36
               replace H := Option.bind_eq_some_iff.mp H
               obtain ⟨t341, A530, H⟩ := H
               replace H : (some t341) = some r := H
               have A53 := Aside0.mk A530
               clear A530
               obtain rfl := Option.some.inj H
               go_wp2_with (first | ((with_reducible refine gate_callee (f := 18) rfl ?_); refine goesL_ (some 121) rfl rfl Try.func18 (by kernel_rfl) rfl #[] rfl (by (try simp only [List.map_toArray, List.map_cons, List.map_nil]); first | done | rfl | (simp only [List.length_drop, List.length_take]; rfl)) ?_; (with_reducible refine (mosaiclaw13_awake.calls k3  t341 _ A53.out).mono ?_); rintro e w54 ⟨rfl, hb⟩; refine ⟨_, rfl, ?_⟩; have n0_ := Aside0.mk (Kd.R_below (by (with_reducible repeat (first | apply Kd.R_alloc | apply Kd.R_drewN | apply Kd.R_drew)); exact HO_7.out) hb); have n1_ := Aside0.mk (below_step (by repeat (first | (with_reducible first | exact HB.out | apply below_alloc | apply pw_below_drewN | apply below_drew1) | exact HB.out)) hb); clear HO_7; clear HB; have HO_7 := n0_; have HB := n1_; clear n0_ n1_; (try clear hb); (try clear hb2); (try clear hk); (try clear hi)))
               go_ret
               exact ⟨by first | rfl | (simp [errW_none, errW_some] <;> rfl) | (simp only [← hji9]; first | rfl | (simp [errW_none, errW_some] <;> rfl)) | (simp [*, errW_none, errW_some] <;> rfl), by repeat (first | (with_reducible first | exact HB.out | apply below_alloc | apply pw_below_drewN | apply below_drew1) | exact HB.out)⟩
    ·
     rw [if_neg c11] at H
     exact absurd H (by simp)
   ·
    rw [if_neg c10] at H
    exact absurd H (by simp)
  ·
   rw [if_neg c7] at H
   have c7b0 : (t312 == 0) = false := beq_eq_false_iff_ne.mpr c7
   have c7b1 : (t312 != 0) = true := bne_iff_ne.mpr c7
   replace H := Option.bind_eq_some_iff.mp H
   obtain ⟨t315, A550, H⟩ := H
   replace H : (if t315 = true then (some ((t311.length : Int) == 0)) else (some false)) = some r := H
   have A55 := Aside0.mk A550
   clear A550
   by_cases c56 : t315 = true
   ·
    subst c56
    have H1 : (some ((t311.length : Int) == 0)) = some r := by rw [if_pos rfl] at H; exact H
    clear H
    have H := H1
    clear H1
    obtain rfl := Option.some.inj H
    go_enter Try.func4, Try.ntmps4
    go_wp2_with (first | ((with_reducible refine gate_callee (f := 17) rfl ?_); refine goesL_ (some 21) rfl rfl Try.func17 (by kernel_rfl) rfl #[.int .i64 a0, .slice A1 l1.length c1, .slice A2 l2.length c2] rfl (by (try simp only [List.map_toArray, List.map_cons, List.map_nil]); first | done | rfl | (simp only [List.length_drop, List.length_take]; rfl)) ?_; (with_reducible refine (mosaiclaw13_few.calls k a0 _ _ l1 (fun k_ => k_ < w.heap.size) _ _ l2 true _ ?side1 ?side2 ?side3 A4.out).mono ?_); (case side1 => repeat (first | exact HR1.out | (with_reducible refine Kd.C_alloc ?_ _) | (with_reducible refine Kd.C_drewN ?_ _) | (with_reducible refine Kd.C_drew ?_))); (case side2 => exact HC1.out); (case side3 => exact Kd.V_mk HC2.out (Kd.F_below (Kd.C_F (Kd.heap_int .i64) HR2.out) (by repeat (first | (with_reducible first | exact HB.out | apply below_alloc | apply pw_below_drewN | apply below_drew1) | exact HB.out)))); rintro e w57 ⟨rfl, hb⟩; refine ⟨_, rfl, ?_⟩; have n0_ := Aside0.mk (below_step (by repeat (first | (with_reducible first | exact HB.out | apply below_alloc | apply pw_below_drewN | apply below_drew1) | exact HB.out)) hb); clear HB; have HB := n0_; clear n0_; (try clear hb); (try clear hb2); (try clear hk); (try clear hi)) | ((with_reducible refine gate_callee (f := 19) rfl ?_); refine goesL_ (some 28) rfl rfl Try.func19 (by kernel_rfl) rfl #[.int .i64 a0, .slice A1 l1.length c1, .slice A2 l2.length c2] rfl (by (try simp only [List.map_toArray, List.map_cons, List.map_nil]); first | done | rfl | (simp only [List.length_drop, List.length_take]; rfl)) ?_; (with_reducible refine (peel_Known.calls k a0 _ _ l1 _ _ l2 t311 t312 _ ?side1 ?side2 ?side3 ?side4 A6.out).mono ?_); (case side1 => repeat (first | exact (Kd.C_below HR1.out HB.out) | (with_reducible refine Kd.C_alloc ?_ _) | (with_reducible refine Kd.C_drewN ?_ _) | (with_reducible refine Kd.C_drew ?_))); (case side2 => exact HC1.out); (case side3 => repeat (first | exact (Kd.C_below HR2.out HB.out) | (with_reducible refine Kd.C_alloc ?_ _) | (with_reducible refine Kd.C_drewN ?_ _) | (with_reducible refine Kd.C_drew ?_))); (case side4 => exact HC2.out); rintro e w58 ⟨v313, rfl, ho0, hb⟩; refine ⟨_, rfl, ?_⟩; have n0_ := Aside0.mk (Kd.R_lower ho0 (below_size (by repeat (first | (with_reducible first | exact HB.out | apply below_alloc | apply pw_below_drewN | apply below_drew1) | exact HB.out)))); have n1_ := Aside0.mk (below_step (by repeat (first | (with_reducible first | exact HB.out | apply below_alloc | apply pw_below_drewN | apply below_drew1) | exact HB.out)) hb); clear HB; have HO314 := n0_; have HB := n1_; clear n0_ n1_; (try clear hb); (try clear hb2); (try clear hk); (try clear hi); (try clear ho0)) | ((with_reducible refine gate_callee (f := 18) rfl ?_); refine goesL_ (some 33) rfl rfl Try.func18 (by kernel_rfl) rfl #[] rfl (by (try simp only [List.map_toArray, List.map_cons, List.map_nil]); first | done | rfl | (simp only [List.length_drop, List.length_take]; rfl)) ?_; (with_reducible refine (mosaiclaw13_awake.calls k  true _ A55.out).mono ?_); rintro e w59 ⟨rfl, hb⟩; refine ⟨_, rfl, ?_⟩; have n0_ := Aside0.mk (Kd.R_below (by (with_reducible repeat (first | apply Kd.R_alloc | apply Kd.R_drewN | apply Kd.R_drew)); exact HO314.out) hb); have n1_ := Aside0.mk (below_step (by repeat (first | (with_reducible first | exact HB.out | apply below_alloc | apply pw_below_drewN | apply below_drew1) | exact HB.out)) hb); clear HO314; clear HB; have HO314 := n0_; have HB := n1_; clear n0_ n1_; (try clear hb); (try clear hb2); (try clear hk); (try clear hi); obtain ⟨Ao60, co60, eo60⟩ := Kd.R_slice HO314.out; subst eo60))
    go_ret
    exact ⟨by first | rfl | (simp [errW_none, errW_some] <;> rfl) | (simp [*, errW_none, errW_some] <;> rfl), by repeat (first | (with_reducible first | exact HB.out | apply below_alloc | apply pw_below_drewN | apply below_drew1) | exact HB.out)⟩
   ·
    replace c56 := Bool.eq_false_iff.mpr c56
    subst c56
    have H1 : (some false) = some r := by rw [if_neg (show ¬ (false = true) by decide)] at H; exact H
    clear H
    have H := H1
    clear H1
    obtain rfl := Option.some.inj H
    go_enter Try.func4, Try.ntmps4
    go_wp2_with (first | ((with_reducible refine gate_callee (f := 17) rfl ?_); refine goesL_ (some 21) rfl rfl Try.func17 (by kernel_rfl) rfl #[.int .i64 a0, .slice A1 l1.length c1, .slice A2 l2.length c2] rfl (by (try simp only [List.map_toArray, List.map_cons, List.map_nil]); first | done | rfl | (simp only [List.length_drop, List.length_take]; rfl)) ?_; (with_reducible refine (mosaiclaw13_few.calls k a0 _ _ l1 (fun k_ => k_ < w.heap.size) _ _ l2 true _ ?side1 ?side2 ?side3 A4.out).mono ?_); (case side1 => repeat (first | exact HR1.out | (with_reducible refine Kd.C_alloc ?_ _) | (with_reducible refine Kd.C_drewN ?_ _) | (with_reducible refine Kd.C_drew ?_))); (case side2 => exact HC1.out); (case side3 => exact Kd.V_mk HC2.out (Kd.F_below (Kd.C_F (Kd.heap_int .i64) HR2.out) (by repeat (first | (with_reducible first | exact HB.out | apply below_alloc | apply pw_below_drewN | apply below_drew1) | exact HB.out)))); rintro e w61 ⟨rfl, hb⟩; refine ⟨_, rfl, ?_⟩; have n0_ := Aside0.mk (below_step (by repeat (first | (with_reducible first | exact HB.out | apply below_alloc | apply pw_below_drewN | apply below_drew1) | exact HB.out)) hb); clear HB; have HB := n0_; clear n0_; (try clear hb); (try clear hb2); (try clear hk); (try clear hi)) | ((with_reducible refine gate_callee (f := 19) rfl ?_); refine goesL_ (some 28) rfl rfl Try.func19 (by kernel_rfl) rfl #[.int .i64 a0, .slice A1 l1.length c1, .slice A2 l2.length c2] rfl (by (try simp only [List.map_toArray, List.map_cons, List.map_nil]); first | done | rfl | (simp only [List.length_drop, List.length_take]; rfl)) ?_; (with_reducible refine (peel_Known.calls k a0 _ _ l1 _ _ l2 t311 t312 _ ?side1 ?side2 ?side3 ?side4 A6.out).mono ?_); (case side1 => repeat (first | exact (Kd.C_below HR1.out HB.out) | (with_reducible refine Kd.C_alloc ?_ _) | (with_reducible refine Kd.C_drewN ?_ _) | (with_reducible refine Kd.C_drew ?_))); (case side2 => exact HC1.out); (case side3 => repeat (first | exact (Kd.C_below HR2.out HB.out) | (with_reducible refine Kd.C_alloc ?_ _) | (with_reducible refine Kd.C_drewN ?_ _) | (with_reducible refine Kd.C_drew ?_))); (case side4 => exact HC2.out); rintro e w62 ⟨v313, rfl, ho0, hb⟩; refine ⟨_, rfl, ?_⟩; have n0_ := Aside0.mk (Kd.R_lower ho0 (below_size (by repeat (first | (with_reducible first | exact HB.out | apply below_alloc | apply pw_below_drewN | apply below_drew1) | exact HB.out)))); have n1_ := Aside0.mk (below_step (by repeat (first | (with_reducible first | exact HB.out | apply below_alloc | apply pw_below_drewN | apply below_drew1) | exact HB.out)) hb); clear HB; have HO314 := n0_; have HB := n1_; clear n0_ n1_; (try clear hb); (try clear hb2); (try clear hk); (try clear hi); (try clear ho0)) | ((with_reducible refine gate_callee (f := 18) rfl ?_); refine goesL_ (some 33) rfl rfl Try.func18 (by kernel_rfl) rfl #[] rfl (by (try simp only [List.map_toArray, List.map_cons, List.map_nil]); first | done | rfl | (simp only [List.length_drop, List.length_take]; rfl)) ?_; (with_reducible refine (mosaiclaw13_awake.calls k  false _ A55.out).mono ?_); rintro e w63 ⟨rfl, hb⟩; refine ⟨_, rfl, ?_⟩; have n0_ := Aside0.mk (Kd.R_below (by (with_reducible repeat (first | apply Kd.R_alloc | apply Kd.R_drewN | apply Kd.R_drew)); exact HO314.out) hb); have n1_ := Aside0.mk (below_step (by repeat (first | (with_reducible first | exact HB.out | apply below_alloc | apply pw_below_drewN | apply below_drew1) | exact HB.out)) hb); clear HO314; clear HB; have HO314 := n0_; have HB := n1_; clear n0_ n1_; (try clear hb); (try clear hb2); (try clear hk); (try clear hi)))
    go_ret
    exact ⟨by first | rfl | (simp [errW_none, errW_some] <;> rfl) | (simp [*, errW_none, errW_some] <;> rfl), by repeat (first | (with_reducible first | exact HB.out | apply below_alloc | apply pw_below_drewN | apply below_drew1) | exact HB.out)⟩
 ·
  replace c5 := Bool.eq_false_iff.mpr c5
  subst c5
  have H1 : ((mosaiclaw13_awake.f k).bind fun t310 => (some t310)) = some r := by rw [if_neg (show ¬ (false = true) by decide)] at H; exact H
  clear H
  have H := H1
  clear H1
  replace H := Option.bind_eq_some_iff.mp H
  obtain ⟨t310, A640, H⟩ := H
  replace H : (some t310) = some r := H
  have A64 := Aside0.mk A640
  clear A640
  obtain rfl := Option.some.inj H
  go_enter Try.func4, Try.ntmps4
  go_wp2_with (first | ((with_reducible refine gate_callee (f := 17) rfl ?_); refine goesL_ (some 21) rfl rfl Try.func17 (by kernel_rfl) rfl #[.int .i64 a0, .slice A1 l1.length c1, .slice A2 l2.length c2] rfl (by (try simp only [List.map_toArray, List.map_cons, List.map_nil]); first | done | rfl | (simp only [List.length_drop, List.length_take]; rfl)) ?_; (with_reducible refine (mosaiclaw13_few.calls k a0 _ _ l1 (fun k_ => k_ < w.heap.size) _ _ l2 false _ ?side1 ?side2 ?side3 A4.out).mono ?_); (case side1 => repeat (first | exact HR1.out | (with_reducible refine Kd.C_alloc ?_ _) | (with_reducible refine Kd.C_drewN ?_ _) | (with_reducible refine Kd.C_drew ?_))); (case side2 => exact HC1.out); (case side3 => exact Kd.V_mk HC2.out (Kd.F_below (Kd.C_F (Kd.heap_int .i64) HR2.out) (by repeat (first | (with_reducible first | exact HB.out | apply below_alloc | apply pw_below_drewN | apply below_drew1) | exact HB.out)))); rintro e w65 ⟨rfl, hb⟩; refine ⟨_, rfl, ?_⟩; have n0_ := Aside0.mk (below_step (by repeat (first | (with_reducible first | exact HB.out | apply below_alloc | apply pw_below_drewN | apply below_drew1) | exact HB.out)) hb); clear HB; have HB := n0_; clear n0_; (try clear hb); (try clear hb2); (try clear hk); (try clear hi)) | ((with_reducible refine gate_callee (f := 18) rfl ?_); refine goesL_ (some 23) rfl rfl Try.func18 (by kernel_rfl) rfl #[] rfl (by (try simp only [List.map_toArray, List.map_cons, List.map_nil]); first | done | rfl | (simp only [List.length_drop, List.length_take]; rfl)) ?_; (with_reducible refine (mosaiclaw13_awake.calls k  t310 _ A64.out).mono ?_); rintro e w66 ⟨rfl, hb⟩; refine ⟨_, rfl, ?_⟩; have n0_ := Aside0.mk (below_step (by repeat (first | (with_reducible first | exact HB.out | apply below_alloc | apply pw_below_drewN | apply below_drew1) | exact HB.out)) hb); clear HB; have HB := n0_; clear n0_; (try clear hb); (try clear hb2); (try clear hk); (try clear hi)))
  go_ret
  exact ⟨by first | rfl | (simp [errW_none, errW_some] <;> rfl) | (simp [*, errW_none, errW_some] <;> rfl), by repeat (first | (with_reducible first | exact HB.out | apply below_alloc | apply pw_below_drewN | apply below_drew1) | exact HB.out)⟩

end Go.Proofs.Ytnchcapdfmccjaa.Print
/-! #### StmPeelGrows -/
-- By the kit's print, called by a program of this session with functions that are proved by hand.
namespace Go.Proofs.Ytnchcapdfmccjaa.Print
open Go.RowKit Go.Proofs.YtnchcapdfmccjaaW.PrintWords
/-- THE ONE PURE STATEMENT of mosaiclaw13_PeelGrows. -/
def mosaiclaw13_PeelGrows.Pure : Prop := ∀ (a0 : Int) (l1 : List (List Int)) (l2 : List Int), ((Lit.int .i64 a0).wf = true) → ((l1 : List (List Int)).length ≤ maxLen ∧ ∀ x1_ ∈ (l1 : List (List Int)), (x1_ : List Int).length ≤ maxLen ∧ ∀ x2_ ∈ (x1_ : List Int), (Lit.int .i64 x2_).wf = true) → ((l2 : List Int).length ≤ maxLen ∧ ∀ x3_ ∈ (l2 : List Int), (Lit.int .i64 x3_).wf = true) → ∃ k, mosaiclaw13_PeelGrows.f k a0 l1 l2 = some true
end Go.Proofs.Ytnchcapdfmccjaa.Print
/-! #### Pr35 -/
-- By the kit's print, called by a program of this session with functions that are proved by hand.
namespace Go.Proofs.Ytnchcapdfmccjaa.Print
open Go.RowKit Go.Proofs.YtnchcapdfmccjaaW.PrintWords Go.Proofs.YtnchcapdfmccjaaW.PrintLast Go.Proofs.YtnchcapdfmccjaaW.PrintMore
attribute [local go_sem] max2_int min2_int max_two min_two max_three min_three max_four min_four
set_option linter.unusedVariables false
set_option linter.unusedSimpArgs false

/-! ### mosaicref12_May: function 35 -/
mutual
def mosaicref12_May.j0 : Nat → Int → List (List Int) → Bool → Option (Bool)
 | 0, _, _, _ => none
 | k + 1, x0, x1, x18 => if x18 = true then (some false) else (mosaicref12_May.l0 k x0 x1 0)
def mosaicref12_May.l0 : Nat → Int → List (List Int) → Int → Option (Bool)
 | 0, _, _, _ => none
 | k + 1, x0, x1, x5 => if x5 < (x1.length : Int) then (mosaicref12_May.l1 k x0 x1 x5 0) else (some true)
def mosaicref12_May.l1 : Nat → Int → List (List Int) → Int → Int → Option (Bool)
 | 0, _, _, _, _ => none
 | k + 1, x0, x1, x5, x6 => if 0 ≤ x5 then (if x5 < (x1.length : Int) then (if x6 < ((rd_L3 x1 x5).length : Int) then (if 0 ≤ x6 then (if (rd (rd_L3 x1 x5) x6) < 0 then (some false) else (if (rd (rd_L3 x1 x5) x6) ≥ x0 then (some false) else (if x6 > 0 then (if 0 ≤ (wrap64 (x6 - 1)) then (if (wrap64 (x6 - 1)) < ((rd_L3 x1 x5).length : Int) then (if (rd (rd_L3 x1 x5) x6) ≤ (rd (rd_L3 x1 x5) (wrap64 (x6 - 1))) then (some false) else (mosaicref12_May.l1 k x0 x1 x5 (wrap64 (x6 + 1)))) else (none)) else (none)) else (mosaicref12_May.l1 k x0 x1 x5 (wrap64 (x6 + 1)))))) else (none)) else (mosaicref12_May.l0 k x0 x1 (wrap64 (x5 + 1)))) else (none)) else (none)
end
def mosaicref12_May.f (k : Nat) (a0 : Int) (l1 : List (List Int)) : Option (Bool) := if a0 < 0 then (mosaicref12_May.j0 k a0 l1 true) else (if a0 > 160 then (mosaicref12_May.j0 k a0 l1 true) else (mosaicref12_May.j0 k a0 l1 (decide ((l1.length : Int) > 400))))
theorem mosaicref12_May.mono_l : ∀ k, (∀ y0 y1 y2, LeO (mosaicref12_May.j0 k y0 y1 y2) (mosaicref12_May.j0 (k + 1) y0 y1 y2)) ∧ (∀ y0 y1 y2, LeO (mosaicref12_May.l0 k y0 y1 y2) (mosaicref12_May.l0 (k + 1) y0 y1 y2)) ∧ (∀ y0 y1 y2 y3, LeO (mosaicref12_May.l1 k y0 y1 y2 y3) (mosaicref12_May.l1 (k + 1) y0 y1 y2 y3))
 | 0 => ⟨fun _ _ _ r h => by simp [mosaicref12_May.j0] at h, fun _ _ _ r h => by simp [mosaicref12_May.l0] at h, fun _ _ _ _ r h => by simp [mosaicref12_May.l1] at h⟩
 | k + 1 => by
  obtain ⟨ih0, ih1, ih2⟩ := mosaicref12_May.mono_l k
  refine ⟨?_, ?_, ?_⟩
  ·
   intro y0 y1 y2
   unfold mosaicref12_May.j0
   repeat' first
   | (with_reducible exact ih0 _ _ _)
   | (with_reducible exact ih1 _ _ _)
   | (with_reducible exact ih2 _ _ _ _)
   | (with_reducible exact LeO.refl _)
   | (with_reducible exact LeO.none _)
   | (with_reducible refine LeO.ite ?_ ?_)
   | (with_reducible refine LeO.bind ?_ (fun _ => ?_))
   | exact ih0 _ _ _
   | exact ih1 _ _ _
   | exact ih2 _ _ _ _
   | exact LeO.none _
   | refine LeO.ite ?_ ?_
   | refine LeO.bind ?_ (fun _ => ?_)
  ·
   intro y0 y1 y2
   unfold mosaicref12_May.l0
   repeat' first
   | (with_reducible exact ih0 _ _ _)
   | (with_reducible exact ih1 _ _ _)
   | (with_reducible exact ih2 _ _ _ _)
   | (with_reducible exact LeO.refl _)
   | (with_reducible exact LeO.none _)
   | (with_reducible refine LeO.ite ?_ ?_)
   | (with_reducible refine LeO.bind ?_ (fun _ => ?_))
   | exact ih0 _ _ _
   | exact ih1 _ _ _
   | exact ih2 _ _ _ _
   | exact LeO.none _
   | refine LeO.ite ?_ ?_
   | refine LeO.bind ?_ (fun _ => ?_)
  ·
   intro y0 y1 y2 y3
   unfold mosaicref12_May.l1
   repeat' first
   | (with_reducible exact ih0 _ _ _)
   | (with_reducible exact ih1 _ _ _)
   | (with_reducible exact ih2 _ _ _ _)
   | (with_reducible exact LeO.refl _)
   | (with_reducible exact LeO.none _)
   | (with_reducible refine LeO.ite ?_ ?_)
   | (with_reducible refine LeO.bind ?_ (fun _ => ?_))
   | exact ih0 _ _ _
   | exact ih1 _ _ _
   | exact ih2 _ _ _ _
   | exact LeO.none _
   | refine LeO.ite ?_ ?_
   | refine LeO.bind ?_ (fun _ => ?_)
theorem mosaicref12_May.mono : ∀ a0 a1 k, LeO (mosaicref12_May.f k a0 a1) (mosaicref12_May.f (k + 1) a0 a1) := by
 intro a0 a1 k
 obtain ⟨ih0, ih1, ih2⟩ := mosaicref12_May.mono_l k
 unfold mosaicref12_May.f
 repeat' first
   | (with_reducible exact ih0 _ _ _)
   | (with_reducible exact ih1 _ _ _)
   | (with_reducible exact ih2 _ _ _ _)
   | (with_reducible exact LeO.refl _)
   | (with_reducible exact LeO.none _)
   | (with_reducible refine LeO.ite ?_ ?_)
   | (with_reducible refine LeO.bind ?_ (fun _ => ?_))
   | exact ih0 _ _ _
   | exact ih1 _ _ _
   | exact ih2 _ _ _ _
   | exact LeO.none _
   | refine LeO.ite ?_ ?_
   | refine LeO.bind ?_ (fun _ => ?_)
set_option maxHeartbeats 8000000 in
set_option maxRecDepth 100000 in
theorem mosaicref12_May.calls (k : Nat) (a0 : Int) (A1 : Option Addr) (c1 : Nat) (l1 : List (List Int)) (r : Bool) (w : World) (hr1 : Kd.C (Kd.slice 3 (Kd.int .i64)) w A1 l1.length l1) (hc1 : l1.length ≤ c1) (h : mosaicref12_May.f k a0 l1 = some r) :
  Calls Try.prog 35 #[.int .i64 a0, .slice A1 l1.length c1] w fun e w' => e = .returned (.bool r) ∧ Drawn0 w w' := by
 have HR1 := Aside0.mk hr1
 have HC1 := Aside0.mk hc1
 clear hr1 hc1
 have H : (if a0 < 0 then (mosaicref12_May.j0 k a0 l1 true) else (if a0 > 160 then (mosaicref12_May.j0 k a0 l1 true) else (mosaicref12_May.j0 k a0 l1 (decide ((l1.length : Int) > 400))))) = some r := h
 clear h
 have HC3 := Aside0.mk H
 clear H
 go_enter Try.func35, Try.ntmps35
 go_upto_region 1 with (fail)
 go_cut [18] (fun v18 wc => ∃ (kq : Nat) (x18_2 : Bool), v18 = .bool x18_2 ∧ Aside0 (mosaicref12_May.j0 kq a0 l1 x18_2 = some r) ∧ Aside0 (kq ≤ k) ∧ Drawn0 w wc)
 case first =>
  have H := HC3.out
  clear HC3
  by_cases c4 : a0 < 0
  ·
   rw [if_pos c4] at H
   have c4b0 : decide (a0 < 0) = true := decide_eq_true c4
   clear c4
   (first | rw [c4b0] | (simp only [i64_w, i32_w]; rw [c4b0]) | skip)
   have H' := Aside0.mk H
   clear H
   go_wp2
   go_meet
   case rel => exact ⟨_, (true), (by first | rfl | (simp; done) | (simp [*]; done)), H', ⟨by first | omega | exact Nat.le_refl _⟩, by repeat (first | exact Drawn0.refl _ | apply Drawn0.step)⟩
  ·
   rw [if_neg c4] at H
   have c4b0 : decide (a0 < 0) = false := decide_eq_false c4
   clear c4
   (first | rw [c4b0] | (simp only [i64_w, i32_w]; rw [c4b0]) | skip)
   by_cases c5 : a0 > 160
   ·
    rw [if_pos c5] at H
    have c5b0 : decide (160 < a0) = true := decide_eq_true c5
    clear c5
    have H' := Aside0.mk H
    clear H
    go_wp2
    go_meet
    case rel => exact ⟨_, (true), (by first | rfl | (simp; done) | (simp [*]; done)), H', ⟨by first | omega | exact Nat.le_refl _⟩, by repeat (first | exact Drawn0.refl _ | apply Drawn0.step)⟩
   ·
    rw [if_neg c5] at H
    have c5b0 : decide (160 < a0) = false := decide_eq_false c5
    clear c5
    have H' := Aside0.mk H
    clear H
    go_wp2
    go_meet
    case rel => exact ⟨_, (decide ((l1.length : Int) > 400)), (by first | rfl | (simp; done) | (simp [*]; done)), H', ⟨by first | omega | exact Nat.le_refl _⟩, by repeat (first | exact Drawn0.refl _ | apply Drawn0.step)⟩
 case rest =>
  clear HC3
  try clear c1
  try clear p2
  try clear c3
  try clear c4
  try clear c4b0
  try clear c5
  try clear c5b0
  obtain ⟨kq, x18_2, rfl, HA, HJ2, ⟨mc2, rfl⟩⟩ := hcut
  cases kq with
  | zero => exact absurd HA.out (by simp [mosaicref12_May.j0])
  | succ kj2 =>
   have H := HA.out
   clear HA
   simp only [mosaicref12_May.j0] at H
   by_cases c6 : x18_2 = true
   ·
    subst c6
    have H1 : (some false) = some r := by rw [if_pos rfl] at H; exact H
    clear H
    have H := H1
    clear H1
    obtain rfl := Option.some.inj H
    go_wp2
    go_ret
    exact ⟨by first | rfl | (simp; done) | (simp [*]; done), by repeat (first | exact Drawn0.refl _ | apply Drawn0.step)⟩
   ·
    replace c6 := Bool.eq_false_iff.mpr c6
    subst c6
    have H1 : (mosaicref12_May.l0 kj2 a0 l1 0) = some r := by rw [if_neg (show ¬ (false = true) by decide)] at H; exact H
    clear H
    have H := H1
    clear H1
    have H' := Aside0.mk H
    clear H
    go_wp2
    go_loopg [5] kj2 (fun kq v5 w' => ∃ (x5_2 : Int), v5 = .int .i64 x5_2 ∧ Aside0 (mosaicref12_May.l0 kq a0 l1 x5_2 = some r) ∧ Aside0 (kq ≤ kj2) ∧ Drawn0 w w')
    case atStart => exact ⟨(0), (by first | rfl | (simp; done) | (simp [*]; done)), H', ⟨Nat.le_refl _⟩, by repeat (first | exact Drawn0.refl _ | apply Drawn0.step)⟩
    case round =>
     clear H'
     try clear c1
     try clear c2
     try clear p2
     try clear c3
     try clear c4
     try clear c4b0
     try clear c5
     try clear c5b0
     try clear c6
     try clear p2
     obtain ⟨x5_2, rfl, HA, HK2, ⟨m2, rfl⟩⟩ := hrel
     cases gk with
     | zero => exact absurd HA.out (by simp [mosaicref12_May.l0])
     | succ k2 =>
      have H := HA.out
      clear HA
      simp only [mosaicref12_May.l0] at H
      by_cases c7 : x5_2 < (l1.length : Int)
      ·
       rw [if_pos c7] at H
       have c7b0 : decide (x5_2 < (l1.length : Int)) = true := decide_eq_true c7
       clear c7
       have H' := Aside0.mk H
       clear H
       go_wp2
       go_loopg [6] k2 (fun kq v6 w' => ∃ (x6_3 : Int), v6 = .int .i64 x6_3 ∧ Aside0 (mosaicref12_May.l1 kq a0 l1 x5_2 x6_3 = some r) ∧ Aside0 (kq ≤ k2) ∧ Drawn0 w w')
       case atStart => exact ⟨(0), (by first | rfl | (simp; done) | (simp [*]; done)), H', ⟨Nat.le_refl _⟩, by repeat (first | exact Drawn0.refl _ | apply Drawn0.step)⟩
       case round =>
        clear H'
        try clear c1
        try clear c2
        try clear p2
        try clear c3
        try clear c4
        try clear c4b0
        try clear c5
        try clear c5b0
        try clear c6
        try clear c7
        try clear c7b0
        try clear p2
        obtain ⟨x6_3, rfl, HA, HK3, ⟨m3, rfl⟩⟩ := hrel
        cases gk with
        | zero => exact absurd HA.out (by simp [mosaicref12_May.l1])
        | succ k3 =>
         have H := HA.out
         clear HA
         simp only [mosaicref12_May.l1] at H
         by_cases c8 : 0 ≤ x5_2
         ·
          rw [if_pos c8] at H
          have c8b0 : decide (0 ≤ x5_2) = true := decide_eq_true c8
          clear c8
          by_cases c9 : x5_2 < (l1.length : Int)
          ·
           rw [if_pos c9] at H
           have c9b0 : decide (x5_2 < (l1.length : Int)) = true := decide_eq_true c9
           clear c9
           by_cases c10 : x6_3 < ((rd_L3 l1 x5_2).length : Int)
           ·
            rw [if_pos c10] at H
            have c10b0 : decide (x6_3 < ((rd_L3 l1 x5_2).length : Int)) = true := decide_eq_true c10
            clear c10
            by_cases c11 : 0 ≤ x6_3
            ·
             rw [if_pos c11] at H
             have c11b0 : decide (0 ≤ x6_3) = true := decide_eq_true c11
             clear c11
             by_cases c12 : (rd (rd_L3 l1 x5_2) x6_3) < 0
             ·
              rw [if_pos c12] at H
              have c12b0 : decide ((rd (rd_L3 l1 x5_2) x6_3) < 0) = true := decide_eq_true c12
              clear c12
              obtain rfl := Option.some.inj H
              have p176 : 0 ≤ (x5_2 : Int) := of_decide_eq_true (by first | (with_reducible assumption) | assumption)
              have q176 : x5_2 < (l1.length : Int) := of_decide_eq_true (by first | (with_reducible assumption) | assumption)
              obtain ⟨ad176, A176_0, c176_0, e176, hx176_0, hl176_0, hi176_0⟩ := at_L3 HR1.out x5_2 p176 q176
              cases e176
              have HR176_0 := Aside0.mk hi176_0
              have HC176_0 := Aside0.mk hl176_0
              clear hi176_0 hl176_0
              replace p176 := eq_true p176
              replace q176 := eq_true q176
              have p177 : 0 ≤ (x5_2 : Int) := of_decide_eq_true (by first | (with_reducible assumption) | assumption)
              have q177 : x5_2 < (l1.length : Int) := of_decide_eq_true (by first | (with_reducible assumption) | assumption)
              obtain ⟨ad177, A177_0, c177_0, e177, hx177_0, hl177_0, hi177_0⟩ := at_L3 HR1.out x5_2 p177 q177
              obtain rfl : ad176 = ad177 := (by injection e177)
              have HR177_0 := Aside0.mk hi177_0
              have HC177_0 := Aside0.mk hl177_0
              clear hi177_0 hl177_0
              replace p177 := eq_true p177
              replace q177 := eq_true q177
              have ea_ := Option.some.inj (hx176_0.symm.trans hx177_0)
              injection ea_ with ea_ en_ ec_
              subst ea_
              subst ec_
              clear en_
              have p178 : 0 ≤ (x6_3 : Int) := of_decide_eq_true (by first | (with_reducible assumption) | assumption)
              have q178 : x6_3 < ((rd_L3 l1 x5_2).length : Int) := of_decide_eq_true (by first | (with_reducible assumption) | assumption)
              obtain ⟨ad178, e178, hx178_0⟩ := Kd.at_int HR177_0.out x6_3 p178 q178
              cases e178
              replace p178 := eq_true p178
              replace q178 := eq_true q178
              go_wp2
              go_ret
              exact ⟨by first | rfl | (simp; done) | (simp [*]; done), by repeat (first | exact Drawn0.refl _ | apply Drawn0.step)⟩
             ·
              rw [if_neg c12] at H
              have c12b0 : decide ((rd (rd_L3 l1 x5_2) x6_3) < 0) = false := decide_eq_false c12
              clear c12
              by_cases c13 : (rd (rd_L3 l1 x5_2) x6_3) ≥ a0
              ·
               rw [if_pos c13] at H
               have c13b0 : decide (a0 ≤ (rd (rd_L3 l1 x5_2) x6_3)) = true := decide_eq_true c13
               clear c13
               obtain rfl := Option.some.inj H
               have p176 : 0 ≤ (x5_2 : Int) := of_decide_eq_true (by first | (with_reducible assumption) | assumption)
               have q176 : x5_2 < (l1.length : Int) := of_decide_eq_true (by first | (with_reducible assumption) | assumption)
               obtain ⟨ad176, A176_0, c176_0, e176, hx176_0, hl176_0, hi176_0⟩ := at_L3 HR1.out x5_2 p176 q176
               cases e176
               have HR176_0 := Aside0.mk hi176_0
               have HC176_0 := Aside0.mk hl176_0
               clear hi176_0 hl176_0
               replace p176 := eq_true p176
               replace q176 := eq_true q176
               have p177 : 0 ≤ (x5_2 : Int) := of_decide_eq_true (by first | (with_reducible assumption) | assumption)
               have q177 : x5_2 < (l1.length : Int) := of_decide_eq_true (by first | (with_reducible assumption) | assumption)
               obtain ⟨ad177, A177_0, c177_0, e177, hx177_0, hl177_0, hi177_0⟩ := at_L3 HR1.out x5_2 p177 q177
               obtain rfl : ad176 = ad177 := (by injection e177)
               have HR177_0 := Aside0.mk hi177_0
               have HC177_0 := Aside0.mk hl177_0
               clear hi177_0 hl177_0
               replace p177 := eq_true p177
               replace q177 := eq_true q177
               have ea_ := Option.some.inj (hx176_0.symm.trans hx177_0)
               injection ea_ with ea_ en_ ec_
               subst ea_
               subst ec_
               clear en_
               have p178 : 0 ≤ (x6_3 : Int) := of_decide_eq_true (by first | (with_reducible assumption) | assumption)
               have q178 : x6_3 < ((rd_L3 l1 x5_2).length : Int) := of_decide_eq_true (by first | (with_reducible assumption) | assumption)
               obtain ⟨ad178, e178, hx178_0⟩ := Kd.at_int HR177_0.out x6_3 p178 q178
               cases e178
               replace p178 := eq_true p178
               replace q178 := eq_true q178
               go_wp2
               go_ret
               exact ⟨by first | rfl | (simp; done) | (simp [*]; done), by repeat (first | exact Drawn0.refl _ | apply Drawn0.step)⟩
              ·
               rw [if_neg c13] at H
               have c13b0 : decide (a0 ≤ (rd (rd_L3 l1 x5_2) x6_3)) = false := decide_eq_false c13
               clear c13
               by_cases c14 : x6_3 > 0
               ·
                rw [if_pos c14] at H
                have c14b0 : decide (0 < x6_3) = true := decide_eq_true c14
                clear c14
                obtain ⟨ji15, hji15⟩ : ∃ j_ : Int, (wrap64 (x6_3 - 1)) = j_ := ⟨_, rfl⟩
                replace H : (if 0 ≤ (ji15) then (if (ji15) < ((rd_L3 l1 x5_2).length : Int) then (if (rd (rd_L3 l1 x5_2) x6_3) ≤ (rd (rd_L3 l1 x5_2) (ji15)) then (some false) else (mosaicref12_May.l1 k3 a0 l1 x5_2 (wrap64 (x6_3 + 1)))) else (none)) else (none)) = some r := by first | (rw [hji15] at H; exact H) | (simp only [hji15] at H ⊢; exact H)
                have hji15w : (IntKind.i64.wrap (x6_3 - 1)) = ji15 := (i64_w _).trans hji15
                by_cases c16 : 0 ≤ (ji15)
                ·
                 rw [if_pos c16] at H
                 have c16b0 : decide (0 ≤ (ji15)) = true := decide_eq_true c16
                 clear c16
                 by_cases c17 : (ji15) < ((rd_L3 l1 x5_2).length : Int)
                 ·
                  rw [if_pos c17] at H
                  have c17b0 : decide ((ji15) < ((rd_L3 l1 x5_2).length : Int)) = true := decide_eq_true c17
                  clear c17
                  by_cases c18 : (rd (rd_L3 l1 x5_2) x6_3) ≤ (rd (rd_L3 l1 x5_2) (ji15))
                  ·
                   rw [if_pos c18] at H
                   have c18b0 : decide ((rd (rd_L3 l1 x5_2) x6_3) ≤ (rd (rd_L3 l1 x5_2) (ji15))) = true := decide_eq_true c18
                   clear c18
                   obtain rfl := Option.some.inj H
                   have p176 : 0 ≤ (x5_2 : Int) := of_decide_eq_true (by first | (with_reducible assumption) | assumption)
                   have q176 : x5_2 < (l1.length : Int) := of_decide_eq_true (by first | (with_reducible assumption) | assumption)
                   obtain ⟨ad176, A176_0, c176_0, e176, hx176_0, hl176_0, hi176_0⟩ := at_L3 HR1.out x5_2 p176 q176
                   cases e176
                   have HR176_0 := Aside0.mk hi176_0
                   have HC176_0 := Aside0.mk hl176_0
                   clear hi176_0 hl176_0
                   replace p176 := eq_true p176
                   replace q176 := eq_true q176
                   have p177 : 0 ≤ (x5_2 : Int) := of_decide_eq_true (by first | (with_reducible assumption) | assumption)
                   have q177 : x5_2 < (l1.length : Int) := of_decide_eq_true (by first | (with_reducible assumption) | assumption)
                   obtain ⟨ad177, A177_0, c177_0, e177, hx177_0, hl177_0, hi177_0⟩ := at_L3 HR1.out x5_2 p177 q177
                   obtain rfl : ad176 = ad177 := (by injection e177)
                   have HR177_0 := Aside0.mk hi177_0
                   have HC177_0 := Aside0.mk hl177_0
                   clear hi177_0 hl177_0
                   replace p177 := eq_true p177
                   replace q177 := eq_true q177
                   have ea_ := Option.some.inj (hx176_0.symm.trans hx177_0)
                   injection ea_ with ea_ en_ ec_
                   subst ea_
                   subst ec_
                   clear en_
                   have p178 : 0 ≤ (x6_3 : Int) := of_decide_eq_true (by first | (with_reducible assumption) | assumption)
                   have q178 : x6_3 < ((rd_L3 l1 x5_2).length : Int) := of_decide_eq_true (by first | (with_reducible assumption) | assumption)
                   obtain ⟨ad178, e178, hx178_0⟩ := Kd.at_int HR177_0.out x6_3 p178 q178
                   cases e178
                   replace p178 := eq_true p178
                   replace q178 := eq_true q178
                   have p179 : 0 ≤ (x5_2 : Int) := of_decide_eq_true (by first | (with_reducible assumption) | assumption)
                   have q179 : x5_2 < (l1.length : Int) := of_decide_eq_true (by first | (with_reducible assumption) | assumption)
                   obtain ⟨ad179, A179_0, c179_0, e179, hx179_0, hl179_0, hi179_0⟩ := at_L3 HR1.out x5_2 p179 q179
                   obtain rfl : ad176 = ad179 := (by injection e179)
                   have HR179_0 := Aside0.mk hi179_0
                   have HC179_0 := Aside0.mk hl179_0
                   clear hi179_0 hl179_0
                   replace p179 := eq_true p179
                   replace q179 := eq_true q179
                   have ea_ := Option.some.inj (hx176_0.symm.trans hx179_0)
                   injection ea_ with ea_ en_ ec_
                   subst ea_
                   subst ec_
                   clear en_
                   have p180 : 0 ≤ ((ji15) : Int) := of_decide_eq_true (by first | (with_reducible assumption) | assumption)
                   have q180 : (ji15) < ((rd_L3 l1 x5_2).length : Int) := of_decide_eq_true (by first | (with_reducible assumption) | assumption)
                   obtain ⟨ad180, e180, hx180_0⟩ := Kd.at_int HR179_0.out (ji15) p180 q180
                   cases e180
                   replace p180 := eq_true p180
                   replace q180 := eq_true q180
                   go_wp2
                   go_ret
                   exact ⟨by first | rfl | (simp; done) | (simp only [← hji15] <;> (first | rfl | simp)) | (simp [*]; done), by repeat (first | exact Drawn0.refl _ | apply Drawn0.step)⟩
                  ·
                   rw [if_neg c18] at H
                   have c18b0 : decide ((rd (rd_L3 l1 x5_2) x6_3) ≤ (rd (rd_L3 l1 x5_2) (ji15))) = false := decide_eq_false c18
                   clear c18
                   have H' := Aside0.mk H
                   clear H
                   have p176 : 0 ≤ (x5_2 : Int) := of_decide_eq_true (by first | (with_reducible assumption) | assumption)
                   have q176 : x5_2 < (l1.length : Int) := of_decide_eq_true (by first | (with_reducible assumption) | assumption)
                   obtain ⟨ad176, A176_0, c176_0, e176, hx176_0, hl176_0, hi176_0⟩ := at_L3 HR1.out x5_2 p176 q176
                   cases e176
                   have HR176_0 := Aside0.mk hi176_0
                   have HC176_0 := Aside0.mk hl176_0
                   clear hi176_0 hl176_0
                   replace p176 := eq_true p176
                   replace q176 := eq_true q176
                   have p177 : 0 ≤ (x5_2 : Int) := of_decide_eq_true (by first | (with_reducible assumption) | assumption)
                   have q177 : x5_2 < (l1.length : Int) := of_decide_eq_true (by first | (with_reducible assumption) | assumption)
                   obtain ⟨ad177, A177_0, c177_0, e177, hx177_0, hl177_0, hi177_0⟩ := at_L3 HR1.out x5_2 p177 q177
                   obtain rfl : ad176 = ad177 := (by injection e177)
                   have HR177_0 := Aside0.mk hi177_0
                   have HC177_0 := Aside0.mk hl177_0
                   clear hi177_0 hl177_0
                   replace p177 := eq_true p177
                   replace q177 := eq_true q177
                   have ea_ := Option.some.inj (hx176_0.symm.trans hx177_0)
                   injection ea_ with ea_ en_ ec_
                   subst ea_
                   subst ec_
                   clear en_
                   have p178 : 0 ≤ (x6_3 : Int) := of_decide_eq_true (by first | (with_reducible assumption) | assumption)
                   have q178 : x6_3 < ((rd_L3 l1 x5_2).length : Int) := of_decide_eq_true (by first | (with_reducible assumption) | assumption)
                   obtain ⟨ad178, e178, hx178_0⟩ := Kd.at_int HR177_0.out x6_3 p178 q178
                   cases e178
                   replace p178 := eq_true p178
                   replace q178 := eq_true q178
                   have p179 : 0 ≤ (x5_2 : Int) := of_decide_eq_true (by first | (with_reducible assumption) | assumption)
                   have q179 : x5_2 < (l1.length : Int) := of_decide_eq_true (by first | (with_reducible assumption) | assumption)
                   obtain ⟨ad179, A179_0, c179_0, e179, hx179_0, hl179_0, hi179_0⟩ := at_L3 HR1.out x5_2 p179 q179
                   obtain rfl : ad176 = ad179 := (by injection e179)
                   have HR179_0 := Aside0.mk hi179_0
                   have HC179_0 := Aside0.mk hl179_0
                   clear hi179_0 hl179_0
                   replace p179 := eq_true p179
                   replace q179 := eq_true q179
                   have ea_ := Option.some.inj (hx176_0.symm.trans hx179_0)
                   injection ea_ with ea_ en_ ec_
                   subst ea_
                   subst ec_
                   clear en_
                   have p180 : 0 ≤ ((ji15) : Int) := of_decide_eq_true (by first | (with_reducible assumption) | assumption)
                   have q180 : (ji15) < ((rd_L3 l1 x5_2).length : Int) := of_decide_eq_true (by first | (with_reducible assumption) | assumption)
                   obtain ⟨ad180, e180, hx180_0⟩ := Kd.at_int HR179_0.out (ji15) p180 q180
                   cases e180
                   replace p180 := eq_true p180
                   replace q180 := eq_true q180
                   go_wp2
                   go_roundg k3
                   case measure => have := HJ2.out; have := HK2.out; have := HK3.out; omega
                   case rel => exact ⟨(wrap64 (x6_3 + 1)), (by first | rfl | (simp; done) | (simp [*]; done)), H', ⟨by have := HJ2.out; have := HK2.out; have := HK3.out; omega⟩, by repeat (first | exact Drawn0.refl _ | apply Drawn0.step)⟩
                 ·
                  rw [if_neg c17] at H
                  exact absurd H (by simp)
                ·
                 rw [if_neg c16] at H
                 exact absurd H (by simp)
               ·
                rw [if_neg c14] at H
                have c14b0 : decide (0 < x6_3) = false := decide_eq_false c14
                clear c14
                have H' := Aside0.mk H
                clear H
                have p176 : 0 ≤ (x5_2 : Int) := of_decide_eq_true (by first | (with_reducible assumption) | assumption)
                have q176 : x5_2 < (l1.length : Int) := of_decide_eq_true (by first | (with_reducible assumption) | assumption)
                obtain ⟨ad176, A176_0, c176_0, e176, hx176_0, hl176_0, hi176_0⟩ := at_L3 HR1.out x5_2 p176 q176
                cases e176
                have HR176_0 := Aside0.mk hi176_0
                have HC176_0 := Aside0.mk hl176_0
                clear hi176_0 hl176_0
                replace p176 := eq_true p176
                replace q176 := eq_true q176
                have p177 : 0 ≤ (x5_2 : Int) := of_decide_eq_true (by first | (with_reducible assumption) | assumption)
                have q177 : x5_2 < (l1.length : Int) := of_decide_eq_true (by first | (with_reducible assumption) | assumption)
                obtain ⟨ad177, A177_0, c177_0, e177, hx177_0, hl177_0, hi177_0⟩ := at_L3 HR1.out x5_2 p177 q177
                obtain rfl : ad176 = ad177 := (by injection e177)
                have HR177_0 := Aside0.mk hi177_0
                have HC177_0 := Aside0.mk hl177_0
                clear hi177_0 hl177_0
                replace p177 := eq_true p177
                replace q177 := eq_true q177
                have ea_ := Option.some.inj (hx176_0.symm.trans hx177_0)
                injection ea_ with ea_ en_ ec_
                subst ea_
                subst ec_
                clear en_
                have p178 : 0 ≤ (x6_3 : Int) := of_decide_eq_true (by first | (with_reducible assumption) | assumption)
                have q178 : x6_3 < ((rd_L3 l1 x5_2).length : Int) := of_decide_eq_true (by first | (with_reducible assumption) | assumption)
                obtain ⟨ad178, e178, hx178_0⟩ := Kd.at_int HR177_0.out x6_3 p178 q178
                cases e178
                replace p178 := eq_true p178
                replace q178 := eq_true q178
                go_wp2
                go_roundg k3
                case measure => have := HJ2.out; have := HK2.out; have := HK3.out; omega
                case rel => exact ⟨(wrap64 (x6_3 + 1)), (by first | rfl | (simp; done) | (simp [*]; done)), H', ⟨by have := HJ2.out; have := HK2.out; have := HK3.out; omega⟩, by repeat (first | exact Drawn0.refl _ | apply Drawn0.step)⟩
            ·
             rw [if_neg c11] at H
             exact absurd H (by simp)
           ·
            rw [if_neg c10] at H
            have c10b0 : decide (x6_3 < ((rd_L3 l1 x5_2).length : Int)) = false := decide_eq_false c10
            clear c10
            have H' := Aside0.mk H
            clear H
            have p176 : 0 ≤ (x5_2 : Int) := of_decide_eq_true (by first | (with_reducible assumption) | assumption)
            have q176 : x5_2 < (l1.length : Int) := of_decide_eq_true (by first | (with_reducible assumption) | assumption)
            obtain ⟨ad176, A176_0, c176_0, e176, hx176_0, hl176_0, hi176_0⟩ := at_L3 HR1.out x5_2 p176 q176
            cases e176
            have HR176_0 := Aside0.mk hi176_0
            have HC176_0 := Aside0.mk hl176_0
            clear hi176_0 hl176_0
            replace p176 := eq_true p176
            replace q176 := eq_true q176
            go_wp2
            go_roundg k3
            case measure => have := HJ2.out; have := HK2.out; have := HK3.out; omega
            case rel => exact ⟨(wrap64 (x5_2 + 1)), (by first | rfl | (simp; done) | (simp [*]; done)), H', ⟨by have := HJ2.out; have := HK2.out; have := HK3.out; omega⟩, by repeat (first | exact Drawn0.refl _ | apply Drawn0.step)⟩
          ·
           rw [if_neg c9] at H
           exact absurd H (by simp)
         ·
          rw [if_neg c8] at H
          exact absurd H (by simp)
      ·
       rw [if_neg c7] at H
       have c7b0 : decide (x5_2 < (l1.length : Int)) = false := decide_eq_false c7
       clear c7
       obtain rfl := Option.some.inj H
       go_wp2
       go_ret
       exact ⟨by first | rfl | (simp; done) | (simp [*]; done), by repeat (first | exact Drawn0.refl _ | apply Drawn0.step)⟩

end Go.Proofs.Ytnchcapdfmccjaa.Print
/-! #### Pr63 -/
-- By the kit's print, called by a program of this session with functions that are proved by hand.
namespace Go.Proofs.Ytnchcapdfmccjaa.Print
open Go.RowKit Go.Proofs.YtnchcapdfmccjaaW.PrintWords Go.Proofs.YtnchcapdfmccjaaW.PrintLast Go.Proofs.YtnchcapdfmccjaaW.PrintMore
attribute [local go_sem] max2_int min2_int max_two min_two max_three min_three max_four min_four
set_option linter.unusedVariables false
set_option linter.unusedSimpArgs false

/-! ### mosaicref13_May: function 63 -/
def mosaicref13_May.f (k : Nat) (a0 : Int) (l1 : List (List Int)) (l2 : List Int) : Option (Bool) := (mosaicref12_May.f k a0 l1).bind fun t181 => (if t181 = true then ((mosaicref12_May.f k a0 (([l2] : List (List Int)))).bind fun t185 => (some t185)) else (some false))
theorem mosaicref13_May.mono : ∀ a0 a1 a2 k, LeO (mosaicref13_May.f k a0 a1 a2) (mosaicref13_May.f (k + 1) a0 a1 a2) := by
 intro a0 a1 a2 k
 unfold mosaicref13_May.f
 repeat' first
   | (with_reducible exact mosaicref12_May.mono _ _ _)
   | (with_reducible exact LeO.refl _)
   | (with_reducible exact LeO.none _)
   | (with_reducible refine LeO.ite ?_ ?_)
   | (with_reducible refine LeO.bind ?_ (fun _ => ?_))
   | exact mosaicref12_May.mono _ _ _
   | exact LeO.none _
   | refine LeO.ite ?_ ?_
   | refine LeO.bind ?_ (fun _ => ?_)
set_option maxHeartbeats 8000000 in
set_option maxRecDepth 100000 in
theorem mosaicref13_May.calls (k : Nat) (a0 : Int) (A1 : Option Addr) (c1 : Nat) (l1 : List (List Int)) (P2_ : Nat → Prop) (A2 : Option Addr) (c2 : Nat) (l2 : List Int) (r : Bool) (w : World) (hr1 : Kd.C (Kd.slice 3 (Kd.int .i64)) w A1 l1.length l1) (hc1 : l1.length ≤ c1) (hs2 : Kd.V (Kd.int .i64) 3 w w.heap.size (fun k_ => P2_ k_) (.slice A2 l2.length c2) l2) (h : mosaicref13_May.f k a0 l1 l2 = some r) :
  Calls Try.prog 63 #[.int .i64 a0, .slice A1 l1.length c1, .slice A2 l2.length c2] w fun e w' => e = .returned (.bool r) ∧ Below w.heap.size w w' := by
 have HR1 := Aside0.mk hr1
 have HC1 := Aside0.mk hc1
 clear hr1 hc1
 have HO2 := Aside0.mk (show Kd.V (Kd.int .i64) 3 w w.heap.size (fun k_ => (P2_ k_ ∨ w.heap.size ≤ k_)) (.slice A2 l2.length c2) l2 from Kd.V_mono hs2 (fun k_ hk => .inl hk))
 have HB := Aside0.mk (Below.refl w.heap.size w)
 have H : ((mosaicref12_May.f k a0 l1).bind fun t181 => (if t181 = true then ((mosaicref12_May.f k a0 (([l2] : List (List Int)))).bind fun t185 => (some t185)) else (some false))) = some r := h
 clear h
 replace H := Option.bind_eq_some_iff.mp H
 obtain ⟨t181, A40, H⟩ := H
 replace H : (if t181 = true then ((mosaicref12_May.f k a0 (([l2] : List (List Int)))).bind fun t185 => (some t185)) else (some false)) = some r := H
 have A4 := Aside0.mk A40
 clear A40
 by_cases c5 : t181 = true
 ·
  subst c5
  have H1 : ((mosaicref12_May.f k a0 (([l2] : List (List Int)))).bind fun t185 => (some t185)) = some r := by rw [if_pos rfl] at H; exact H
  clear H
  have H := H1
  clear H1
  obtain ⟨y182, hy182⟩ : ∃ y_ : List (List Int), y_ = (([l2] : List (List Int))) := ⟨_, rfl⟩
  replace H : ((mosaicref12_May.f k a0 y182).bind fun t185 => (some t185)) = some r := by first | (rw [hy182]; with_reducible exact H) | (have H2_ := (Option.bind_some _ _).symm.trans H; rw [hy182]; with_reducible exact H2_) | (have H2_ := (Option.bind_some _ _).symm.trans H; with_reducible exact H2_) | with_reducible exact H | (rw [hy182]; exact H) | exact H
  have Ny182 := Aside0.mk hy182
  clear hy182
  replace H := Option.bind_eq_some_iff.mp H
  obtain ⟨t185, A60, H⟩ := H
  replace H : (some t185) = some r := H
  have A6 := Aside0.mk A60
  clear A60
  obtain rfl := Option.some.inj H
  go_enter Try.func63, Try.ntmps63
  go_wp2_with (first | ((with_reducible refine gate_callee (f := 35) rfl ?_); refine goesL_ (some 9) rfl rfl Try.func35 (by kernel_rfl) rfl #[.int .i64 a0, .slice A1 l1.length c1] rfl (by (try simp only [List.map_toArray, List.map_cons, List.map_nil]); first | done | rfl | (simp only [List.length_drop, List.length_take]; rfl)) ?_; (with_reducible refine (mosaicref12_May.calls k a0 _ _ l1 true _ ?side1 ?side2 A4.out).mono ?_); (case side1 => repeat (first | exact HR1.out | (with_reducible refine Kd.C_alloc ?_ _) | (with_reducible refine Kd.C_drewN ?_ _) | (with_reducible refine Kd.C_drew ?_))); (case side2 => exact HC1.out); rintro e w' ⟨rfl, ⟨nd, rfl⟩⟩; refine ⟨_, rfl, ?_⟩) | ((with_reducible refine gate_dst (N := 13) rfl ?_); (try (refine gate_guard (by rfl) ?_; dsimp only)); refine Kd.N_lit (Kd.slice 3 (Kd.int .i64)) _ 23 ?hg (N' := 13) ?hd (xs := ([l2] : List (List Int))) (inner := [.slice A2 l2.length c2]) (ok := (fun k_ => (P2_ k_ ∨ w.heap.size ≤ k_))) (okp := (fun k_ => (P2_ k_ ∨ w.heap.size ≤ k_))) ?hr ?hp (fun _ hk => hk) ((show ∀ k_, w.heap.size ≤ k_ → (fun k_ => (P2_ k_ ∨ w.heap.size ≤ k_)) k_ from fun k_ hk => (.inr (Nat.le_trans (below_size (by repeat (first | (with_reducible first | exact HB.out | apply below_alloc | apply pw_below_drewN | apply below_drew1) | exact HB.out))) hk))) _ (Nat.le_refl _)) (Below.refl _ _) (Nat.le_refl _) (by simp) ?_; (case hd => rfl); (case hg => rfl); (case hr => first | (go_simp; done) | (go_simp; rfl)); (case hp => exact (Reps.one (show Kd.FK (Kd.slice 3 (Kd.int .i64)) _ _ l2 [.slice A2 l2.length c2] from (Kd.FK_slice_mk (Kd.V_reads' (Kd.V_mono (ok' := (fun k_ => (P2_ k_ ∨ w.heap.size ≤ k_))) (HO2.out) (fun k_ hk => hk))).2.1 (Kd.V_F (Kd.V_mono (ok' := (fun k_ => (P2_ k_ ∨ w.heap.size ≤ k_))) (by (with_reducible repeat (first | apply Kd.V_alloc | apply Kd.V_drewN | apply Kd.V_drew)); exact HO2.out) (fun k_ hk => hk))))) (Reps.none _ _))); intro v183 w7 ho8 hb hg_ hnew_; clear hg_ hnew_; (first | rw [← Ny182.out] at ho8 | (simp only [Int.reduceToNat] at ho8; rw [← Ny182.out] at ho8)); have n0_ := Aside0.mk (Kd.V_elder' (by (with_reducible repeat (first | apply Kd.V_alloc | apply Kd.V_drewN | apply Kd.V_drew)); exact HO2.out) (Kd.N_base ho8) hb); have n1_ := Aside0.mk (Kd.N_lower ho8 (below_size (by repeat (first | (with_reducible first | exact HB.out | apply below_alloc | apply pw_below_drewN | apply below_drew1) | exact HB.out)))); have n2_ := Aside0.mk (below_step (by repeat (first | (with_reducible first | exact HB.out | apply below_alloc | apply pw_below_drewN | apply below_drew1) | exact HB.out)) hb); clear HO2; clear HB; have HO2 := n0_; have HO184 := n1_; have HB := n2_; clear n0_ n1_ n2_; clear hb ho8; obtain ⟨Ao9, co9, eo9⟩ := Kd.N_slice HO184.out; subst eo9) | (go_at_call 35; (with_reducible refine (mosaicref12_May.calls k a0 _ _ y182 t185 _ ?side1 ?side2 A6.out).mono ?_); (case side1 => repeat (first | exact (Kd.N_reads' HO184.out).2.2 | (with_reducible refine Kd.C_alloc ?_ _) | (with_reducible refine Kd.C_drewN ?_ _) | (with_reducible refine Kd.C_drew ?_))); (case side2 => exact (Kd.N_reads' HO184.out).2.1); rintro e w' ⟨rfl, ⟨nd, rfl⟩⟩))
  go_ret
  exact ⟨by first | rfl | (simp [errW_none, errW_some] <;> rfl) | (simp [*, errW_none, errW_some] <;> rfl), by repeat (first | (with_reducible first | exact HB.out | apply below_alloc | apply pw_below_drewN | apply below_drew1) | exact HB.out)⟩
 ·
  replace c5 := Bool.eq_false_iff.mpr c5
  subst c5
  have H1 : (some false) = some r := by rw [if_neg (show ¬ (false = true) by decide)] at H; exact H
  clear H
  have H := H1
  clear H1
  obtain rfl := Option.some.inj H
  go_enter Try.func63, Try.ntmps63
  go_wp2_with (first | ((with_reducible refine gate_callee (f := 35) rfl ?_); refine goesL_ (some 9) rfl rfl Try.func35 (by kernel_rfl) rfl #[.int .i64 a0, .slice A1 l1.length c1] rfl (by (try simp only [List.map_toArray, List.map_cons, List.map_nil]); first | done | rfl | (simp only [List.length_drop, List.length_take]; rfl)) ?_; (with_reducible refine (mosaicref12_May.calls k a0 _ _ l1 false _ ?side1 ?side2 A4.out).mono ?_); (case side1 => repeat (first | exact HR1.out | (with_reducible refine Kd.C_alloc ?_ _) | (with_reducible refine Kd.C_drewN ?_ _) | (with_reducible refine Kd.C_drew ?_))); (case side2 => exact HC1.out); rintro e w' ⟨rfl, ⟨nd, rfl⟩⟩; refine ⟨_, rfl, ?_⟩))
  go_ret
  exact ⟨by first | rfl | (simp [errW_none, errW_some] <;> rfl) | (simp [*, errW_none, errW_some] <;> rfl), by repeat (first | (with_reducible first | exact HB.out | apply below_alloc | apply pw_below_drewN | apply below_drew1) | exact HB.out)⟩

end Go.Proofs.Ytnchcapdfmccjaa.Print
/-! #### PureW -/
/- Words for pure statements: rounds that suffice (Ev), tests, numbers, lists. -/
namespace Go.Proofs.YtnchcapdfmccjaaW.PrintWords
theorem Ev.pos {α : Type} {c : Prop} [Decidable c] {f g : Nat → Option α} {r : α} (h : c) (k : Ev f r) : Ev (fun n => if c then f n else g n) r := by
  simpa only [if_pos h] using k
theorem Ev.neg {α : Type} {c : Prop} [Decidable c] {f g : Nat → Option α} {r : α} (h : ¬ c) (k : Ev g r) : Ev (fun n => if c then f n else g n) r := by
  simpa only [if_neg h] using k
theorem Ev.some_ {α : Type} {a r : α} (h : a = r) : Ev (fun _ => some a) r := h ▸ Ev.now a
theorem Ev.some_bind {α β : Type} {a : α} {f : Nat → α → Option β} {r : β} (k : Ev (fun n => f n a) r) : Ev (fun n => (some a).bind (f n)) r := k
theorem Ev.to {α : Type} {g : Nat → Option α} {r r' : α} (h : Ev g r) (e : r = r') : Ev g r' := e ▸ h
/-- A call that has no rounds. -/
theorem Ev.call {α β : Type} {o : Option α} {a : α} {f : Nat → α → Option β} {r : β} (h : o = some a) (k : Ev (fun n => f n a) r) : Ev (fun n => o.bind (f n)) r := by
  subst h
  exact k
theorem Ev.const {α : Type} {o : Option α} {r : α} (h : o = some r) : Ev (fun _ => o) r := ⟨0, fun _ _ => h⟩

theorem Ev.succ {α : Type} {g : Nat → Option α} {r : α} (k : Ev (fun n => g (n + 1)) r) : Ev g r := Ev.step (fun _ => rfl) k

end Go.Proofs.YtnchcapdfmccjaaW.PrintWords
namespace Go.Proofs.Ytnchcapdfmccjaa.Pure
open Go.RowKit Go.Proofs.YtnchcapdfmccjaaW.PrintWords
set_option linter.unusedVariables false

theorem wrap_of {x : Int} (h0 : -9223372036854775808 ≤ x) (h1 : x ≤ 9223372036854775807) : wrap64 x = x := by unfold wrap64; omega
theorem wrap_succ (i : Nat) (h : i < 9223372036854775807) : wrap64 ((i : Int) + 1) = ((i + 1 : Nat) : Int) := by unfold wrap64; omega
theorem maxLen_eq : maxLen = 9223372036854775807 := rfl
theorem wf64 {x : Int} (h : (Lit.int .i64 x).wf = true) : -9223372036854775808 ≤ x ∧ x ≤ 9223372036854775807 := by
  simp only [Lit.wf, Bool.and_eq_true, decide_eq_true_eq] at h
  exact h
theorem rd_nat (l : List Int) (i : Nat) : rd l (i : Int) = l.getD i 0 := by simp [rd]
theorem rd_lt (l : List Int) (i : Nat) (h : i < l.length) : rd l (i : Int) = l[i] := by simp [rd, List.getD_eq_getElem?_getD, h]
theorem rdOf_lt {α : Type} (d : α) (l : List α) (i : Nat) (h : i < l.length) : rdOf d l (i : Int) = l[i] := by simp [rdOf, List.getD_eq_getElem?_getD, h]
end Go.Proofs.Ytnchcapdfmccjaa.Pure
/-! #### PurePeel -/
/- What the functions of peel and of its reference come to, in plain words: rows' rests, the steps, what is known behind them. -/
namespace Go.Proofs.Ytnchcapdfmccjaa.Pure
open Go.RowKit Go.Proofs.Ytnchcapdfmccjaa.Print Go.Proofs.YtnchcapdfmccjaaW.PrintWords Go.Proofs.YtnchcapdfmccjaaW.PrintLast
set_option linter.unusedVariables false
set_option linter.unusedSimpArgs false

/-! ### the references' small words -/
theorem has_l0 (l : List Int) (a : Int) (hl : l.length ≤ 9223372036854775807) (d : Nat) : ∀ i : Nat, l.length - i = d → i ≤ l.length → Ev (fun k => mosaicref09_Has.l0 k l a (i : Int)) (decide (a ∈ l.drop i)) := by
  induction d with
  | zero =>
    intro i hd hi
    refine Ev.succ ?_
    simp only [mosaicref09_Has.l0]
    refine Ev.neg (by omega) (Ev.some_ ?_)
    rw [List.drop_of_length_le (by omega)]
    simp
  | succ d ih =>
    intro i hd hi
    have hlt : i < l.length := by omega
    refine Ev.succ ?_
    simp only [mosaicref09_Has.l0]
    refine Ev.pos (by omega) (Ev.pos (by omega) ?_)
    rw [rd_lt l i hlt, List.drop_eq_getElem_cons hlt, wrap_succ i (by omega)]
    by_cases h : l[i] = a
    · exact Ev.pos h (Ev.some_ (by simp [h]))
    · refine Ev.neg h ((ih (i + 1) (by omega) (by omega)).to ?_)
      rw [decide_eq_decide, List.mem_cons]
      exact ⟨Or.inr, fun e => e.resolve_left (Ne.symm h)⟩
theorem has_ev (l : List Int) (a : Int) (hl : l.length ≤ 9223372036854775807) : Ev (fun k => mosaicref09_Has.f k l a) (decide (a ∈ l)) := by
  have := has_l0 l a hl l.length 0 (by omega) (by omega)
  simpa [mosaicref09_Has.f] using this

theorem same_l0 (a b : List Int) (hl : a.length ≤ 9223372036854775807) (he : a.length = b.length) (d : Nat) : ∀ i : Nat, a.length - i = d → i ≤ a.length → Ev (fun k => mosaicref04_Same.l0 k a b (i : Int)) (decide (a.drop i = b.drop i)) := by
  induction d with
  | zero =>
    intro i hd hi
    refine Ev.succ ?_
    simp only [mosaicref04_Same.l0]
    refine Ev.neg (by omega) (Ev.some_ ?_)
    rw [List.drop_of_length_le (by omega), List.drop_of_length_le (by omega)]
    simp
  | succ d ih =>
    intro i hd hi
    have hlt : i < a.length := by omega
    refine Ev.succ ?_
    simp only [mosaicref04_Same.l0]
    refine Ev.pos (by omega) (Ev.pos (by omega) (Ev.pos (by omega) ?_))
    rw [rd_lt a i hlt, rd_lt b i (by omega), List.drop_eq_getElem_cons hlt, List.drop_eq_getElem_cons (show i < b.length by omega), wrap_succ i (by omega)]
    by_cases h : a[i] = b[i]'(by omega)
    · refine Ev.pos h ((ih (i + 1) (by omega) (by omega)).to ?_)
      rw [decide_eq_decide, List.cons.injEq]
      exact ⟨fun e => ⟨h, e⟩, fun e => e.2⟩
    · refine Ev.neg h (Ev.some_ ?_)
      exact (decide_eq_false fun e => h (List.cons.inj e).1).symm
theorem same_ev (a b : List Int) (hl : a.length ≤ 9223372036854775807) : Ev (fun k => mosaicref04_Same.f k a b) (decide (a = b)) := by
  unfold mosaicref04_Same.f
  by_cases he : a.length = b.length
  · refine Ev.pos (by omega) ?_
    have := same_l0 a b hl he a.length 0 (by omega) (by omega)
    simpa using this
  · refine Ev.neg (by omega) (Ev.some_ ?_)
    have : a ≠ b := fun h => he (by rw [h])
    simp [this]

def fewB (n : Int) (rows : List (List Int)) : Bool := decide (n ≤ 60) && (decide (rows.length ≤ 40) && rows.all fun r => decide (r.length ≤ 80))
theorem few_l0 (rows : List (List Int)) (hl : rows.length ≤ 40) (d : Nat) : ∀ i : Nat, rows.length - i = d → i ≤ rows.length → Ev (fun k => mosaiclaw12_Few.l0 k rows (i : Int)) ((rows.drop i).all fun r => decide (r.length ≤ 80)) := by
  induction d with
  | zero =>
    intro i hd hi
    refine Ev.succ ?_
    simp only [mosaiclaw12_Few.l0]
    refine Ev.neg (by omega) (Ev.some_ ?_)
    rw [List.drop_of_length_le (by omega)]
    rfl
  | succ d ih =>
    intro i hd hi
    have hlt : i < rows.length := by omega
    refine Ev.succ ?_
    simp only [mosaiclaw12_Few.l0]
    refine Ev.pos (by omega) (Ev.pos (by omega) ?_)
    have hr : rd_L3 rows (i : Int) = rows[i] := by simp [rd_L3, List.getD_eq_getElem?_getD, hlt]
    rw [hr, List.drop_eq_getElem_cons hlt, wrap_succ i (by omega)]
    by_cases h : (rows[i].length : Int) > 80
    · refine Ev.pos h (Ev.some_ ?_)
      rw [List.all_cons, decide_eq_false (by omega)]
      rfl
    · refine Ev.neg h ((ih (i + 1) (by omega) (by omega)).to ?_)
      rw [List.all_cons, decide_eq_true (by omega)]
      rfl
theorem Few_ev (n : Int) (rows : List (List Int)) : Ev (fun k => mosaiclaw12_Few.f k n rows) (fewB n rows) := by
  unfold mosaiclaw12_Few.f fewB
  by_cases h1 : n > 60
  · refine Ev.pos h1 (Ev.succ ?_)
    simp only [mosaiclaw12_Few.j0]
    refine Ev.pos (by trivial) (Ev.some_ ?_)
    have : ¬ n ≤ 60 := by omega
    simp [this]
  · refine Ev.neg h1 (Ev.succ ?_)
    simp only [mosaiclaw12_Few.j0]
    have h1' : n ≤ 60 := by omega
    by_cases h2 : (rows.length : Int) > 40
    · refine Ev.pos (by simpa using h2) (Ev.some_ ?_)
      have : ¬ rows.length ≤ 40 := by omega
      simp [this]
    · refine Ev.neg (by simpa using h2) ?_
      have h2' : rows.length ≤ 40 := by omega
      have := few_l0 rows h2' rows.length 0 (by omega) (by omega)
      simpa [h1', h2'] using this
theorem few_ev (n : Int) (rows : List (List Int)) (known : List Int) : Ev (fun k => mosaiclaw13_few.f k n rows known) (fewB n rows && fewB n [known]) := by
  unfold mosaiclaw13_few.f
  refine Ev.bind (Few_ev n rows) ?_
  cases h : fewB n rows with
  | true => exact Ev.pos rfl (Ev.bind (Few_ev n [known]) (Ev.some_ rfl))
  | false => exact Ev.neg (by simp) (Ev.some_ rfl)

/-! ### May -/
theorem may12_l1 (n : Int) (rows : List (List Int)) (i : Nat) (hi : i < rows.length) (hl : rows[i].length ≤ 9223372036854775807) (hb : rows.length ≤ 400) (R : Bool)
    (next : Ev (fun k => mosaicref12_May.l0 k n rows ((i + 1 : Nat) : Int)) R) (d : Nat) : ∀ (j : Nat) (p : Int), rows[i].length - j = d → j ≤ rows[i].length → (j = 0 → p = -1) → (0 < j → p = rd rows[i] ((j : Int) - 1) ∧ 0 ≤ p) →
    Ev (fun k => mosaicref12_May.l1 k n rows (i : Int) (j : Int)) (mayFrom n p (rows[i].drop j) && R) := by
  have hr : rd_L3 rows (i : Int) = rows[i] := by simp [rd_L3, List.getD_eq_getElem?_getD, hi]
  induction d with
  | zero =>
    intro j p hd hj hp h0
    refine Ev.succ ?_
    simp only [mosaicref12_May.l1]
    rw [hr]
    refine Ev.pos (by omega) (Ev.pos (by omega) (Ev.neg (by omega) ?_))
    rw [wrap_succ i (by omega), List.drop_of_length_le (by omega)]
    simpa [mayFrom] using next
  | succ d ih =>
    intro j p hd hj hp h0
    have hlt : j < rows[i].length := by omega
    have hx : rd rows[i] (j : Int) = rows[i][j] := rd_lt _ j hlt
    have hp1 : -1 ≤ p := by
      rcases Nat.eq_zero_or_pos j with e | e
      · have := hp e
        omega
      · have := (h0 e).2
        omega
    refine Ev.succ ?_
    simp only [mosaicref12_May.l1]
    rw [hr]
    refine Ev.pos (by omega) (Ev.pos (by omega) (Ev.pos (by omega) (Ev.pos (by omega) ?_)))
    rw [List.drop_eq_getElem_cons hlt, hx]
    simp only [mayFrom]
    generalize hy : rows[i][j] = y at hx
    rw [wrap_succ j (by omega)]
    by_cases c1 : y < 0
    · refine Ev.pos c1 (Ev.some_ ?_)
      rw [decide_eq_false (by omega)]
      rfl
    refine Ev.neg c1 ?_
    by_cases c2 : y ≥ n
    · refine Ev.pos c2 (Ev.some_ ?_)
      rw [decide_eq_false (by omega)]
      rfl
    refine Ev.neg c2 ?_
    have go : Ev (fun k => mosaicref12_May.l1 k n rows (i : Int) ((j + 1 : Nat) : Int)) (mayFrom n y (rows[i].drop (j + 1)) && R) := by
      refine ih (j + 1) y (by omega) (by omega) (by omega) (fun _ => ⟨?_, by omega⟩)
      rw [show ((j + 1 : Nat) : Int) - 1 = (j : Int) by omega]
      exact hx.symm
    by_cases c3 : (j : Int) > 0
    · have hw1 : wrap64 ((j : Int) - 1) = (j : Int) - 1 := by unfold wrap64; omega
      obtain ⟨e1, e2⟩ := h0 (by omega)
      refine Ev.pos c3 ?_
      rw [hw1, ← e1]
      refine Ev.pos (by omega) (Ev.pos (by omega) ?_)
      by_cases c4 : y ≤ p
      · refine Ev.pos c4 (Ev.some_ ?_)
        rw [decide_eq_false (by omega)]
        rfl
      · refine Ev.neg c4 (go.to ?_)
        rw [decide_eq_true (show p < y ∧ y < n by omega)]
        rfl
    · have := hp (by omega)
      refine Ev.neg c3 (go.to ?_)
      rw [decide_eq_true (show p < y ∧ y < n by omega)]
      rfl
theorem may12_l0 (n : Int) (rows : List (List Int)) (hl : ∀ r ∈ rows, r.length ≤ 9223372036854775807) (hb : rows.length ≤ 400) (d : Nat) : ∀ i : Nat, rows.length - i = d → i ≤ rows.length → Ev (fun k => mosaicref12_May.l0 k n rows (i : Int)) ((rows.drop i).all (mayRowB n)) := by
  induction d with
  | zero =>
    intro i hd hi
    refine Ev.succ ?_
    simp only [mosaicref12_May.l0]
    refine Ev.neg (by omega) (Ev.some_ ?_)
    rw [List.drop_of_length_le (by omega)]
    rfl
  | succ d ih =>
    intro i hd hi
    have hlt : i < rows.length := by omega
    refine Ev.succ ?_
    simp only [mosaicref12_May.l0]
    refine Ev.pos (by omega) ?_
    rw [List.drop_eq_getElem_cons hlt]
    have := may12_l1 n rows i hlt (hl _ (List.getElem_mem hlt)) hb _ (ih (i + 1) (by omega) (by omega)) rows[i].length 0 (-1) (by omega) (by omega) (fun _ => rfl) (fun h => absurd h (by omega))
    have e : ((0 : Nat) : Int) = 0 := rfl
    rw [e] at this
    rw [List.all_cons]
    exact this
theorem May12_ev (n : Int) (rows : List (List Int)) (hl : ∀ r ∈ rows, r.length ≤ 9223372036854775807) : Ev (fun k => mosaicref12_May.f k n rows) (gauss_May.b n rows) := by
  unfold mosaicref12_May.f gauss_May.b
  by_cases h1 : n < 0
  · refine Ev.pos h1 (Ev.succ ?_)
    simp only [mosaicref12_May.j0]
    refine Ev.pos (by trivial) (Ev.some_ ?_)
    have : ¬ 0 ≤ n := by omega
    simp [this]
  refine Ev.neg h1 ?_
  have h1' : 0 ≤ n := by omega
  by_cases h2 : n > 160
  · refine Ev.pos h2 (Ev.succ ?_)
    simp only [mosaicref12_May.j0]
    refine Ev.pos (by trivial) (Ev.some_ ?_)
    have : ¬ n ≤ 160 := by omega
    simp [this]
  refine Ev.neg h2 (Ev.succ ?_)
  simp only [mosaicref12_May.j0]
  have h2' : n ≤ 160 := by omega
  by_cases h3 : (rows.length : Int) > 400
  · refine Ev.pos (by simpa using h3) (Ev.some_ ?_)
    have : ¬ rows.length ≤ 400 := by omega
    simp [this]
  · refine Ev.neg (by simpa using h3) ?_
    have h3' : rows.length ≤ 400 := by omega
    have := may12_l0 n rows hl h3' rows.length 0 (by omega) (by omega)
    simpa [h1', h2', h3'] using this
def mayP (n : Int) (rows : List (List Int)) (known : List Int) : Bool := gauss_May.b n rows && gauss_May.b n [known]
theorem may_eq (n : Int) (rows : List (List Int)) (known : List Int) : peel_may.f n rows known = some (mayP n rows known) := by
  unfold peel_may.f mayP gauss_May.f
  cases gauss_May.b n rows <;> simp
theorem May13_ev (n : Int) (rows : List (List Int)) (known : List Int) (hl : ∀ r ∈ rows, r.length ≤ 9223372036854775807) (hk : known.length ≤ 9223372036854775807) : Ev (fun k => mosaicref13_May.f k n rows known) (mayP n rows known) := by
  unfold mosaicref13_May.f mayP
  refine Ev.bind (May12_ev n rows hl) ?_
  cases h : gauss_May.b n rows with
  | true => exact Ev.pos rfl (Ev.bind (May12_ev n [known] (by simpa using hk)) (Ev.some_ rfl))
  | false => exact Ev.neg (by simp) (Ev.some_ rfl)
end Go.Proofs.Ytnchcapdfmccjaa.Pure
/-! #### PurePeel2 -/
/- Peeling, in plain words: the program's and the reference's. -/
namespace Go.Proofs.Ytnchcapdfmccjaa.Pure
open Go.RowKit Go.Proofs.Ytnchcapdfmccjaa.Print Go.Proofs.YtnchcapdfmccjaaW.PrintWords Go.Proofs.YtnchcapdfmccjaaW.PrintLast
set_option linter.unusedVariables false
set_option linter.unusedSimpArgs false

/-- Is a number marked? -/
def mk (m : List Bool) (i : Int) : Bool := m.getD i.toNat false
/-- A row's numbers that are not marked. -/
def restB (m : List Bool) (r : List Int) : List Int := r.filter fun i => !mk m i
/-- The last unmarked number; is it the only one? -/
def gapA : Int → List Int → Int × Bool
  | at_, [] => (at_, decide (at_ ≥ 0))
  | at_, x :: xs => if at_ ≥ 0 then (0, false) else gapA x xs
/-- All numbers of a row are below so many. -/
def inB (n : Nat) (r : List Int) : Prop := ∀ i ∈ r, 0 ≤ i ∧ i < (n : Int)

theorem rdOf_mk (m : List Bool) (i : Int) : rdOf false m i = mk m i := rfl
theorem gap_l0 (m : List Bool) (row : List Int) (hm : m.length ≤ 9223372036854775807) (hr : inB m.length row) (hl : row.length ≤ 9223372036854775807) (d : Nat) : ∀ (i : Nat) (at_ : Int), row.length - i = d → i ≤ row.length →
    Ev (fun k => peel_gap.l0 k m at_ row (row.length : Int) (i : Int)) (gapA at_ (restB m (row.drop i))) := by
  induction d with
  | zero =>
    intro i at_ hd hi
    refine Ev.succ ?_
    simp only [peel_gap.l0]
    refine Ev.neg (by omega) (Ev.some_ ?_)
    rw [List.drop_of_length_le (by omega)]
    rfl
  | succ d ih =>
    intro i at_ hd hi
    have hlt : i < row.length := by omega
    have hx := hr _ (List.getElem_mem hlt)
    refine Ev.succ ?_
    simp only [peel_gap.l0]
    rw [rd_lt row i hlt, List.drop_eq_getElem_cons hlt, wrap_succ i (by omega), rdOf_mk]
    refine Ev.pos (by omega) (Ev.pos (by omega) (Ev.pos (by omega) (Ev.pos (by omega) (Ev.pos (by omega) ?_))))
    unfold restB
    cases hk : mk m row[i] with
    | true =>
      refine Ev.pos rfl ((ih (i + 1) at_ (by omega) (by omega)).to ?_)
      rw [List.filter_cons_of_neg (by simp [hk])]
      rfl
    | false =>
      refine Ev.neg (by simp) ?_
      rw [List.filter_cons_of_pos (by simp [hk])]
      by_cases ha : at_ ≥ 0
      · exact Ev.pos ha (Ev.some_ (by simp [gapA, ha]))
      · refine Ev.neg ha ((ih (i + 1) row[i] (by omega) (by omega)).to ?_)
        simp [gapA, ha]
        rfl
def gapR (m : List Bool) (row : List Int) : Int × Bool := gapA (-1) (restB m row)
theorem gap_ev (m : List Bool) (row : List Int) (hm : m.length ≤ 9223372036854775807) (hr : inB m.length row) (hl : row.length ≤ 9223372036854775807) : Ev (fun k => peel_gap.f k row m) (gapR m row) := by
  have := gap_l0 m row hm hr hl row.length 0 (-1) (by omega) (by omega)
  simpa [peel_gap.f, gapR] using this
theorem gapA_one (l : List Int) (hl : ∀ i ∈ l, 0 ≤ i) : (gapA (-1) l).2 = decide (l.length = 1) ∧ ∀ i, l = [i] → gapA (-1) l = (i, true) := by
  match l with
  | [] => exact ⟨by simp [gapA], fun i h => by cases h⟩
  | [x] =>
    have hx := hl x (by simp)
    refine ⟨by simp [gapA, hx], fun i h => ?_⟩
    cases h
    simp [gapA, hx]
  | x :: y :: r =>
    have hx := hl x (by simp)
    refine ⟨by simp [gapA, hx], fun i h => by cases h⟩

/-! ### marks, numbers -/
def marksL (m : List Bool) (known : List Int) : List Bool := known.foldl (fun m i => m.set i.toNat true) m
theorem marksL_length : ∀ (known : List Int) (m : List Bool), (marksL m known).length = m.length
  | [], m => rfl
  | x :: xs, m => by
    show (marksL (m.set x.toNat true) xs).length = _
    rw [marksL_length xs, List.length_set]
def marksB (n : Int) (known : List Int) : List Bool := marksL (List.replicate n.toNat false) known
theorem marksB_length (n : Int) (known : List Int) : (marksB n known).length = n.toNat := by rw [marksB, marksL_length, List.length_replicate]
theorem marks_l0 (known : List Int) (n : Nat) (hn : n ≤ 160) (hk : inB n known) (hl : known.length ≤ 9223372036854775807) (d : Nat) : ∀ (i : Nat) (m : List Bool), known.length - i = d → i ≤ known.length → m.length = n →
    Ev (fun k => peel_marks.l0 k m known (known.length : Int) (i : Int)) (marksL m (known.drop i)) := by
  induction d with
  | zero =>
    intro i m hd hi hm
    refine Ev.succ ?_
    simp only [peel_marks.l0]
    refine Ev.neg (by omega) (Ev.some_ ?_)
    rw [List.drop_of_length_le (by omega)]
    rfl
  | succ d ih =>
    intro i m hd hi hm
    have hlt : i < known.length := by omega
    have hx := hk _ (List.getElem_mem hlt)
    refine Ev.succ ?_
    simp only [peel_marks.l0]
    rw [rd_lt known i hlt, List.drop_eq_getElem_cons hlt, wrap_succ i (by omega)]
    refine Ev.pos (by omega) (Ev.pos (by omega) (Ev.pos (by omega) (Ev.pos (by omega) (Ev.pos (by omega) ?_))))
    exact ih (i + 1) _ (by omega) (by omega) (by rw [List.length_set, hm])
theorem marks_ev (n : Int) (h0 : 0 ≤ n) (h1 : n ≤ 160) (known : List Int) (hk : inB n.toNat known) (hl : known.length ≤ 9223372036854775807) : Ev (fun k => peel_marks.f k n known) (marksB n known) := by
  unfold peel_marks.f
  refine Ev.pos h0 (Ev.pos (by omega) ?_)
  have := marks_l0 known n.toNat (by omega) hk hl known.length 0 (List.replicate n.toNat false) (by omega) (by omega) (by simp)
  simpa [marksB] using this
theorem mk_set (m : List Bool) (j : Int) (h0 : 0 ≤ j) (hj : j < (m.length : Int)) (i : Int) (hi : 0 ≤ i) : mk (m.set j.toNat true) i = (mk m i || decide (i = j)) := by
  unfold mk
  rw [List.getD_eq_getElem?_getD, List.getD_eq_getElem?_getD, List.getElem?_set]
  by_cases h : i = j
  · subst h
    rw [if_pos rfl, if_pos (by omega)]
    simp
  · rw [if_neg (by omega)]
    simp [h]
theorem mk_marksL : ∀ (known : List Int) (m : List Bool), inB m.length known → ∀ i : Int, 0 ≤ i → mk (marksL m known) i = (mk m i || decide (i ∈ known))
  | [], m, _, i, hi => by simp [marksL]
  | x :: xs, m, h, i, hi => by
    have hx := h x (by simp)
    show mk (marksL (m.set x.toNat true) xs) i = _
    rw [mk_marksL xs _ (fun y hy => by rw [List.length_set]; exact h y (by simp [hy])) i hi, mk_set m x hx.1 hx.2 i hi]
    by_cases h1 : i = x <;> simp [h1]
theorem mk_replicate (n : Nat) (i : Int) : mk (List.replicate n false) i = false := by
  unfold mk
  rw [List.getD_eq_getElem?_getD, List.getElem?_replicate]
  split <;> rfl
theorem mk_marksB (n : Int) (known : List Int) (hk : inB n.toNat known) (i : Int) (hi : 0 ≤ i) : mk (marksB n known) i = decide (i ∈ known) := by
  unfold marksB
  rw [mk_marksL known _ (by rw [List.length_replicate]; exact hk) i hi, mk_replicate]
  simp

/-- The numbers that are marked so, from i on. -/
def numsF (b : Bool) : List Bool → Nat → List Int
  | [], _ => []
  | x :: xs, i => if x = b then (i : Int) :: numsF b xs (i + 1) else numsF b xs (i + 1)
theorem numsF_length (b : Bool) : ∀ (m : List Bool) (i : Nat), (numsF b m i).length ≤ m.length
  | [], i => by simp [numsF]
  | x :: xs, i => by
    unfold numsF
    have := numsF_length b xs (i + 1)
    split <;> simp <;> omega
theorem numbers_l0 (m : List Bool) (b : Bool) (hm : m.length ≤ 160) (d : Nat) : ∀ (i : Nat) (acc : List Int), m.length - i = d → i ≤ m.length → acc.length ≤ i →
    Ev (fun k => peel_numbers.l0 k b acc m (m.length : Int) (i : Int)) (acc ++ numsF b (m.drop i) i) := by
  induction d with
  | zero =>
    intro i acc hd hi ha
    refine Ev.succ ?_
    simp only [peel_numbers.l0]
    refine Ev.neg (by omega) (Ev.some_ ?_)
    rw [List.drop_of_length_le (by omega)]
    simp [numsF]
  | succ d ih =>
    intro i acc hd hi ha
    have hlt : i < m.length := by omega
    refine Ev.succ ?_
    simp only [peel_numbers.l0]
    rw [rdOf_lt false m i hlt, List.drop_eq_getElem_cons hlt, wrap_succ i (by omega)]
    refine Ev.pos (by omega) (Ev.pos (by omega) (Ev.pos (by omega) ?_))
    unfold numsF
    by_cases h : m[i] = b
    · refine Ev.pos (by simp [h]) (Ev.pos (by omega) ((ih (i + 1) (acc ++ [(i : Int)]) (by omega) (by omega) (by simp; omega)).to ?_))
      simp [h]
    · refine Ev.neg (by simp [h]) ((ih (i + 1) acc (by omega) (by omega) (by omega)).to ?_)
      simp [h]
theorem numbers_ev (m : List Bool) (b : Bool) (hm : m.length ≤ 160) : Ev (fun k => peel_numbers.f k m b) (numsF b m 0) := by
  have := numbers_l0 m b hm m.length 0 [] (by omega) (by omega) (by simp)
  simpa [peel_numbers.f] using this
theorem mem_numsF (b : Bool) : ∀ (m : List Bool) (i : Nat) (x : Int), x ∈ numsF b m i ↔ ∃ j : Nat, x = ((i + j : Nat) : Int) ∧ m[j]? = some b
  | [], i, x => by simp [numsF]
  | y :: ys, i, x => by
    have ih := mem_numsF b ys (i + 1) x
    unfold numsF
    constructor
    · intro h
      by_cases hy : y = b
      · rw [if_pos hy] at h
        rcases List.mem_cons.1 h with h | h
        · exact ⟨0, by simpa using h, by simp [hy]⟩
        · obtain ⟨j, e, hj⟩ := ih.1 h
          exact ⟨j + 1, by rw [e]; congr 1; omega, by simpa using hj⟩
      · rw [if_neg hy] at h
        obtain ⟨j, e, hj⟩ := ih.1 h
        exact ⟨j + 1, by rw [e]; congr 1; omega, by simpa using hj⟩
    · rintro ⟨j, e, hj⟩
      cases j with
      | zero =>
        have hy : y = b := by simpa using hj
        rw [if_pos hy]
        simp [e]
      | succ j =>
        have h : x ∈ numsF b ys (i + 1) := ih.2 ⟨j, by rw [e]; congr 1; omega, by simpa using hj⟩
        by_cases hy : y = b
        · rw [if_pos hy]
          exact List.mem_cons_of_mem _ h
        · rw [if_neg hy]
          exact h
theorem mem_nums (m : List Bool) (x : Int) : x ∈ numsF true m 0 ↔ 0 ≤ x ∧ mk m x = true := by
  rw [mem_numsF]
  unfold mk
  constructor
  · rintro ⟨j, e, hj⟩
    subst e
    refine ⟨by omega, ?_⟩
    rw [List.getD_eq_getElem?_getD, show ((0 + j : Nat) : Int).toNat = j by omega, hj]
    rfl
  · rintro ⟨h0, h⟩
    refine ⟨x.toNat, by omega, ?_⟩
    rw [List.getD_eq_getElem?_getD] at h
    cases h2 : m[x.toNat]? with
    | none => rw [h2] at h; cases h
    | some b => rw [h2] at h; simp at h; rw [h]
theorem numsF_may (b : Bool) : ∀ (m : List Bool) (i : Nat) (n p : Int), p < (i : Int) → ((i + m.length : Nat) : Int) ≤ n → mayFrom n p (numsF b m i) = true
  | [], i, n, p, _, _ => rfl
  | y :: ys, i, n, p, hp, hn => by
    simp only [List.length_cons] at hn
    unfold numsF
    by_cases hy : y = b
    · rw [if_pos hy]
      simp only [mayFrom, Bool.and_eq_true, decide_eq_true_eq]
      exact ⟨by omega, numsF_may b ys (i + 1) n i (by omega) (by omega)⟩
    · rw [if_neg hy]
      exact numsF_may b ys (i + 1) n p (by omega) (by omega)

/-! ### the steps -/
/-- The first ripe row, and its number. -/
def firstRipe (m : List Bool) : List (List Int) → Nat → Option (Nat × Int)
  | [], _ => none
  | r :: rs, k => if (gapR m r).2 = true then some (k, (gapR m r).1) else firstRipe m rs (k + 1)
def runS (rows : List (List Int)) : Nat → List Bool → List (Nat × Int) × List Bool
  | 0, m => ([], m)
  | f + 1, m => match firstRipe m rows 0 with
    | none => ([], m)
    | some (k, i) => ((k, i) :: (runS rows f (m.set i.toNat true)).1, (runS rows f (m.set i.toNat true)).2)
def inR (n : Nat) (rows : List (List Int)) : Prop := ∀ r ∈ rows, inB n r
theorem rest_in {n : Nat} {m : List Bool} {r : List Int} (h : inB n r) : inB n (restB m r) := fun i hi => h i (List.mem_filter.1 hi).1
/-- What a ripe row tells: its only unmarked number. -/
theorem gap_ripe {m : List Bool} {r : List Int} (h : inB m.length r) (hg : (gapR m r).2 = true) : restB m r = [(gapR m r).1] ∧ 0 ≤ (gapR m r).1 ∧ (gapR m r).1 < (m.length : Int) ∧ mk m (gapR m r).1 = false := by
  have h1 := gapA_one (restB m r) (fun i hi => (rest_in h i hi).1)
  have hl : (restB m r).length = 1 := by
    have := h1.1
    unfold gapR at hg
    rw [hg] at this
    simpa using this.symm
  obtain ⟨i, hi⟩ := List.length_eq_one_iff.1 hl
  have he : gapR m r = (i, true) := h1.2 i hi
  rw [he]
  have hmem : i ∈ restB m r := by rw [hi]; simp
  have := rest_in h i hmem
  have hf := (List.mem_filter.1 hmem).2
  exact ⟨hi, this.1, this.2, by simpa using hf⟩
theorem firstRipe_some {m : List Bool} : ∀ (rows : List (List Int)) (k : Nat) {j : Nat} {i : Int}, firstRipe m rows k = some (j, i) → k ≤ j ∧ ∃ r, rows[j - k]? = some r ∧ (gapR m r).2 = true ∧ i = (gapR m r).1
  | [], k, j, i, h => by cases h
  | r :: rs, k, j, i, h => by
    unfold firstRipe at h
    by_cases hg : (gapR m r).2 = true
    · rw [if_pos hg] at h
      cases h
      exact ⟨Nat.le_refl _, r, by simp, hg, rfl⟩
    · rw [if_neg hg] at h
      obtain ⟨h1, r', h2, h3⟩ := firstRipe_some rs (k + 1) h
      refine ⟨by omega, r', ?_, h3⟩
      rw [show j - k = (j - (k + 1)) + 1 by omega]
      simpa using h2
theorem firstRipe_none {m : List Bool} : ∀ (rows : List (List Int)) (k : Nat), firstRipe m rows k = none → ∀ r ∈ rows, (gapR m r).2 = false
  | [], k, _, r, hr => by simp at hr
  | r' :: rs, k, h, r, hr => by
    unfold firstRipe at h
    by_cases hg : (gapR m r').2 = true
    · rw [if_pos hg] at h
      cases h
    · rw [if_neg hg] at h
      rcases List.mem_cons.1 hr with rfl | hr
      · simpa using hg
      · exact firstRipe_none rs (k + 1) h r hr
/-- A ripe row's number, as it is found. -/
theorem ripe_fact {m : List Bool} {rows : List (List Int)} (hr : inR m.length rows) {j : Nat} {i : Int} (h : firstRipe m rows 0 = some (j, i)) : j < rows.length ∧ 0 ≤ i ∧ i < (m.length : Int) ∧ mk m i = false ∧ ∃ r ∈ rows, restB m r = [i] := by
  obtain ⟨_, r, h2, h3, rfl⟩ := firstRipe_some rows 0 h
  have hmem := List.mem_of_getElem? h2
  obtain ⟨e, h4, h5, h6⟩ := gap_ripe (hr r hmem) h3
  refine ⟨?_, h4, h5, h6, r, hmem, e⟩
  have := (List.getElem?_eq_some_iff.1 h2).1
  omega
theorem count_set : ∀ (m : List Bool) (j : Nat), m.getD j true = false → (m.set j true).count false + 1 = m.count false
  | [], j, h => by simp at h
  | x :: xs, 0, h => by
    have hx : x = false := by simpa using h
    subst hx
    simp
  | x :: xs, j + 1, h => by
    have := count_set xs j (by simpa using h)
    simp only [List.set_cons_succ, List.count_cons]
    omega
theorem count_step {m : List Bool} {i : Int} (h0 : 0 ≤ i) (h1 : i < (m.length : Int)) (h : mk m i = false) : (m.set i.toNat true).count false + 1 = m.count false := by
  refine count_set m i.toNat ?_
  unfold mk at h
  rw [List.getD_eq_getElem?_getD] at h ⊢
  rw [List.getElem?_eq_getElem (by omega)] at h ⊢
  exact h
/-- Enough rounds: more change nothing. -/
theorem runS_more (rows : List (List Int)) : ∀ (f : Nat) (m : List Bool), inR m.length rows → m.count false ≤ f → ∀ g, f ≤ g → runS rows g m = runS rows f m
  | f, m, hr, hc, g, hg => by
    induction f generalizing m g with
    | zero =>
      cases g with
      | zero => rfl
      | succ g =>
        unfold runS
        cases h : firstRipe m rows 0 with
        | none => rfl
        | some p =>
          obtain ⟨j, i⟩ := p
          obtain ⟨_, h0, h1, h2, _⟩ := ripe_fact hr h
          have := count_step h0 h1 h2
          omega
    | succ f ih =>
      cases g with
      | zero => omega
      | succ g =>
        unfold runS
        cases h : firstRipe m rows 0 with
        | none => rfl
        | some p =>
          obtain ⟨j, i⟩ := p
          obtain ⟨_, h0, h1, h2, _⟩ := ripe_fact hr h
          have := count_step h0 h1 h2
          have e := ih (m.set i.toNat true) (by rw [List.length_set]; exact hr) (by omega) g (by omega)
          simp only [e]
def to38 (p : Nat × Int) : S38 := ⟨(p.1 : Int), p.2⟩
theorem peel_scan (rows : List (List Int)) (hb : rows.length ≤ 400) (m : List Bool) (hm : m.length ≤ 160) (hr : inR m.length rows) (hl : ∀ r ∈ rows, r.length ≤ 9223372036854775807) (acc : List S38) (ha : acc.length ≤ 1000) (R : List S38 × List Bool)
    (hn : firstRipe m rows 0 = none → R = (acc, m)) (hs : ∀ j i, firstRipe m rows 0 = some (j, i) → Ev (fun k => peel_peel.l0 k rows (m.set i.toNat true) (acc ++ [to38 (j, i)]) 0) R) (d : Nat) :
    ∀ i : Nat, rows.length - i = d → i ≤ rows.length → firstRipe m rows 0 = firstRipe m (rows.drop i) i → Ev (fun k => peel_peel.l0 k rows m acc (i : Int)) R := by
  induction d with
  | zero =>
    intro i hd hi he
    rw [List.drop_of_length_le (by omega)] at he
    refine Ev.succ ?_
    simp only [peel_peel.l0]
    exact Ev.pos (by omega) (Ev.some_ (hn he).symm)
  | succ d ih =>
    intro i hd hi he
    have hlt : i < rows.length := by omega
    have hrr : rd_L3 rows (i : Int) = rows[i] := by simp [rd_L3, List.getD_eq_getElem?_getD, hlt]
    rw [List.drop_eq_getElem_cons hlt] at he
    refine Ev.succ ?_
    simp only [peel_peel.l0]
    rw [hrr]
    refine Ev.neg (by omega) (Ev.pos (by omega) (Ev.pos (by omega) (Ev.bind (gap_ev m rows[i] (by omega) (hr _ (List.getElem_mem hlt)) (hl _ (List.getElem_mem hlt))) ?_)))
    by_cases hg : (gapR m rows[i]).2 = true
    · obtain ⟨_, h0, h1, _⟩ := gap_ripe (hr _ (List.getElem_mem hlt)) hg
      have e : firstRipe m rows 0 = some (i, (gapR m rows[i]).1) := by
        rw [he]
        simp [firstRipe, hg]
      have := hs _ _ e
      refine Ev.pos hg (Ev.pos h0 (Ev.pos h1 (Ev.pos (by omega) ?_)))
      exact this
    · refine Ev.neg hg ?_
      rw [wrap_succ i (by omega)]
      refine ih (i + 1) (by omega) (by omega) ?_
      rw [he]
      simp [firstRipe, hg]
theorem peel_l0 (rows : List (List Int)) (hb : rows.length ≤ 400) (hl : ∀ r ∈ rows, r.length ≤ 9223372036854775807) : ∀ (f : Nat) (m : List Bool), m.length ≤ 160 → inR m.length rows → m.count false ≤ f → ∀ acc : List S38, acc.length + f ≤ 1000 →
    Ev (fun k => peel_peel.l0 k rows m acc 0) (acc ++ (runS rows f m).1.map to38, (runS rows f m).2) := by
  intro f
  induction f with
  | zero =>
    intro m hm hr hc acc ha
    refine peel_scan rows hb m hm hr hl acc (by omega) _ (fun h => by simp [runS]) (fun j i h => ?_) rows.length 0 (by omega) (by omega) (by simp)
    obtain ⟨_, h0, h1, h2, _⟩ := ripe_fact hr h
    have := count_step h0 h1 h2
    omega
  | succ f ih =>
    intro m hm hr hc acc ha
    refine peel_scan rows hb m hm hr hl acc (by omega) _ (fun h => by simp [runS, h]) (fun j i h => ?_) rows.length 0 (by omega) (by omega) (by simp)
    obtain ⟨_, h0, h1, h2, _⟩ := ripe_fact hr h
    have := count_step h0 h1 h2
    have e := ih (m.set i.toNat true) (by rw [List.length_set]; exact hm) (by rw [List.length_set]; exact hr) (by omega) (acc ++ [to38 (j, i)]) (by simp; omega)
    refine e.to ?_
    simp [runS, h]
/-- What peeling comes to: its steps, and the marks behind them. -/
def peelB (rows : List (List Int)) (m : List Bool) : List (Nat × Int) × List Bool := runS rows m.length m
theorem peel_ev (rows : List (List Int)) (hb : rows.length ≤ 400) (hl : ∀ r ∈ rows, r.length ≤ 9223372036854775807) (m : List Bool) (hm : m.length ≤ 160) (hr : inR m.length rows) : Ev (fun k => peel_peel.f k rows m) ((peelB rows m).1.map to38, (peelB rows m).2) := by
  have := peel_l0 rows hb hl m.length m hm hr List.count_le_length [] (by simp; omega)
  simpa [peel_peel.f, peelB] using this
theorem runS_length (rows : List (List Int)) : ∀ (f : Nat) (m : List Bool), (runS rows f m).2.length = m.length
  | 0, m => rfl
  | f + 1, m => by
    unfold runS
    cases firstRipe m rows 0 with
    | none => rfl
    | some p => simp [runS_length rows f]
end Go.Proofs.Ytnchcapdfmccjaa.Pure
/-! #### Pr66 -/
-- By the kit's print, called by a program of this session with functions that are proved by hand.
namespace Go.Proofs.Ytnchcapdfmccjaa.Print
open Go.RowKit Go.Proofs.YtnchcapdfmccjaaW.PrintWords Go.Proofs.YtnchcapdfmccjaaW.PrintLast Go.Proofs.YtnchcapdfmccjaaW.PrintMore
attribute [local go_sem] max2_int min2_int max_two min_two max_three min_three max_four min_four
set_option linter.unusedVariables false
set_option linter.unusedSimpArgs false

/-! ### mosaicref13_Rest: function 66 -/
def mosaicref13_Rest.l0 : Nat → List Int → List Int → List Int → Int → Option (List Int)
 | 0, _, _, _, _ => none
 | k + 1, x0, x1, x5, x6 => if x6 < (x0.length : Int) then (if 0 ≤ x6 then ((mosaicref09_Has.f k x1 (rd x0 x6)).bind fun t188 => (if t188 = true then (mosaicref13_Rest.l0 k x0 x1 x5 (wrap64 (x6 + 1))) else (if x5.length < 17592186044416 then (mosaicref13_Rest.l0 k x0 x1 (x5 ++ [rd x0 x6]) (wrap64 (x6 + 1))) else (none)))) else (none)) else (some x5)
def mosaicref13_Rest.f (k : Nat) (l0 : List Int) (l1 : List Int) : Option (List Int) := mosaicref13_Rest.l0 k l0 l1 ([] : List Int) 0
theorem mosaicref13_Rest.mono_l : ∀ k, (∀ y0 y1 y2 y3, LeO (mosaicref13_Rest.l0 k y0 y1 y2 y3) (mosaicref13_Rest.l0 (k + 1) y0 y1 y2 y3))
 | 0 => fun _ _ _ _ r h => by simp [mosaicref13_Rest.l0] at h
 | k + 1 => by
  have ih0 := mosaicref13_Rest.mono_l k
  ·
   intro y0 y1 y2 y3
   unfold mosaicref13_Rest.l0
   repeat' first
   | (with_reducible exact ih0 _ _ _ _)
   | (with_reducible exact mosaicref09_Has.mono _ _ _)
   | (with_reducible exact LeO.refl _)
   | (with_reducible exact LeO.none _)
   | (with_reducible refine LeO.ite ?_ ?_)
   | (with_reducible refine LeO.bind ?_ (fun _ => ?_))
   | exact ih0 _ _ _ _
   | exact mosaicref09_Has.mono _ _ _
   | exact LeO.none _
   | refine LeO.ite ?_ ?_
   | refine LeO.bind ?_ (fun _ => ?_)
theorem mosaicref13_Rest.mono : ∀ a0 a1 k, LeO (mosaicref13_Rest.f k a0 a1) (mosaicref13_Rest.f (k + 1) a0 a1) := by
 intro a0 a1 k
 have ih0 := mosaicref13_Rest.mono_l k
 unfold mosaicref13_Rest.f
 repeat' first
   | (with_reducible exact ih0 _ _ _ _)
   | (with_reducible exact mosaicref09_Has.mono _ _ _)
   | (with_reducible exact LeO.refl _)
   | (with_reducible exact LeO.none _)
   | (with_reducible refine LeO.ite ?_ ?_)
   | (with_reducible refine LeO.bind ?_ (fun _ => ?_))
   | exact ih0 _ _ _ _
   | exact mosaicref09_Has.mono _ _ _
   | exact LeO.none _
   | refine LeO.ite ?_ ?_
   | refine LeO.bind ?_ (fun _ => ?_)
set_option maxHeartbeats 8000000 in
set_option maxRecDepth 100000 in
theorem mosaicref13_Rest.calls (k : Nat) (A0 : Option Addr) (c0 : Nat) (l0 : List Int) (A1 : Option Addr) (c1 : Nat) (l1 : List Int) (r : List Int) (w : World) (hr0 : Kd.C (Kd.int .i64) w A0 l0.length l0) (hc0 : l0.length ≤ c0) (hr1 : Kd.C (Kd.int .i64) w A1 l1.length l1) (hc1 : l1.length ≤ c1) (h : mosaicref13_Rest.f k l0 l1 = some r) :
  Calls Try.prog 66 #[.slice A0 l0.length c0, .slice A1 l1.length c1] w fun e w' => ∃ v0_ : Value, e = .returned (v0_) ∧ Kd.R (Kd.int .i64) 3 w' w.heap.size (fun _ => True) v0_ r ∧ Below w.heap.size w w' := by
 have HR0 := Aside0.mk hr0
 have HC0 := Aside0.mk hc0
 clear hr0 hc0
 have HR1 := Aside0.mk hr1
 have HC1 := Aside0.mk hc1
 clear hr1 hc1
 have HB := Aside0.mk (Below.refl w.heap.size w)
 have H : (mosaicref13_Rest.l0 k l0 l1 ([] : List Int) 0) = some r := h
 clear h
 have H' := Aside0.mk H
 clear H
 go_enter Try.func66, Try.ntmps66
 go_wp2
 go_loopg [5, 6] k (fun kq v5 v6 w' => ∃ (x5_1 : List Int) (x6_1 : Int), v6 = .int .i64 x6_1 ∧ Aside0 (mosaicref13_Rest.l0 kq l0 l1 x5_1 x6_1 = some r) ∧ Aside0 (kq ≤ k) ∧ Aside0 (Kd.R (Kd.int .i64) 3 w' w.heap.size (fun _ => True) v5 x5_1) ∧ Aside0 (Below w.heap.size w w'))
 case atStart => exact ⟨(([] : List Int)), (0), (by first | rfl | (simp; done) | (simp [*]; done)), H', ⟨Nat.le_refl _⟩, ⟨by first | exact Kd.R_nil _ _ _ _ _ | exact Kd.N_nil _ _ _ _ _ | exact Kd.V_nil _ _ _ _ _ | exact Kd.Q_nil _ _ _ _ _ | exact Kd.S_nil _ _ _ _ _⟩, ⟨by repeat (first | (with_reducible first | exact HB.out | apply below_alloc | apply pw_below_drewN | apply below_drew1) | exact HB.out)⟩⟩
 case round =>
  clear H'
  try clear c1
  try clear p2
  obtain ⟨x5_1, x6_1, rfl, HA, HK1, HO_5, HB⟩ := hrel
  cases gk with
  | zero => exact absurd HA.out (by simp [mosaicref13_Rest.l0])
  | succ k1 =>
   have H := HA.out
   clear HA
   simp only [mosaicref13_Rest.l0] at H
   by_cases c3 : x6_1 < (l0.length : Int)
   ·
    rw [if_pos c3] at H
    have c3b0 : decide (x6_1 < (l0.length : Int)) = true := decide_eq_true c3
    clear c3
    by_cases c4 : 0 ≤ x6_1
    ·
     rw [if_pos c4] at H
     have c4b0 : decide (0 ≤ x6_1) = true := decide_eq_true c4
     clear c4
     replace H := Option.bind_eq_some_iff.mp H
     obtain ⟨t188, A50, H⟩ := H
     replace H : (if t188 = true then (mosaicref13_Rest.l0 k1 l0 l1 x5_1 (wrap64 (x6_1 + 1))) else (if x5_1.length < 17592186044416 then (mosaicref13_Rest.l0 k1 l0 l1 (x5_1 ++ [rd l0 x6_1]) (wrap64 (x6_1 + 1))) else (none))) = some r := H
     have A5 := Aside0.mk A50
     clear A50
     by_cases c6 : t188 = true
     ·
      subst c6
      have H1 : (mosaicref13_Rest.l0 k1 l0 l1 x5_1 (wrap64 (x6_1 + 1))) = some r := by rw [if_pos rfl] at H; exact H
      clear H
      have H := H1
      clear H1
      have H' := Aside0.mk H
      clear H
      have p187 : 0 ≤ (x6_1 : Int) := of_decide_eq_true (by first | (with_reducible assumption) | assumption)
      have q187 : x6_1 < (l0.length : Int) := of_decide_eq_true (by first | (with_reducible assumption) | assumption)
      obtain ⟨ad187, e187, hx187_0⟩ := Kd.at_int HR0.out x6_1 p187 q187
      cases e187
      replace hx187_0 := (HB.out.cell (World.block_lt_of_cell? w _ hx187_0)).trans hx187_0
      replace p187 := eq_true p187
      replace q187 := eq_true q187
      go_wp2_with (first | ((with_reducible refine gate_callee (f := 21) rfl ?_); refine goesL_ (some 18) rfl rfl Try.func21 (by kernel_rfl) rfl #[.slice A1 l1.length c1, .int .i64 (rd l0 x6_1)] rfl (by (try simp only [List.map_toArray, List.map_cons, List.map_nil]); first | done | rfl | (simp only [List.length_drop, List.length_take]; rfl)) ?_; (with_reducible refine (mosaicref09_Has.calls k1 _ _ l1 (rd l0 x6_1) true _ ?side1 ?side2 A5.out).mono ?_); (case side1 => repeat (first | exact (Kd.C_below HR1.out HB.out) | (with_reducible refine Kd.C_alloc ?_ _) | (with_reducible refine Kd.C_drewN ?_ _) | (with_reducible refine Kd.C_drew ?_))); (case side2 => exact HC1.out); rintro e w' ⟨rfl, ⟨nd, rfl⟩⟩; refine ⟨_, rfl, ?_⟩))
      go_roundg k1
      case measure => have := HK1.out; omega
      case rel => exact ⟨(x5_1), (wrap64 (x6_1 + 1)), (by first | rfl | (simp; done) | (simp [*]; done)), H', ⟨by have := HK1.out; omega⟩, ⟨by (with_reducible repeat (first | apply Kd.R_alloc | apply Kd.R_drewN | apply Kd.R_drew)); exact HO_5.out⟩, ⟨by repeat (first | (with_reducible first | exact HB.out | apply below_alloc | apply pw_below_drewN | apply below_drew1) | exact HB.out)⟩⟩
     ·
      replace c6 := Bool.eq_false_iff.mpr c6
      subst c6
      have H1 : (if x5_1.length < 17592186044416 then (mosaicref13_Rest.l0 k1 l0 l1 (x5_1 ++ [rd l0 x6_1]) (wrap64 (x6_1 + 1))) else (none)) = some r := by rw [if_neg (show ¬ (false = true) by decide)] at H; exact H
      clear H
      have H := H1
      clear H1
      by_cases c7 : x5_1.length < 17592186044416
      ·
       rw [if_pos c7] at H
       have LMc7 := Aside0.mk c7
       clear c7
       obtain ⟨y190, hy190⟩ : ∃ y_ : List Int, y_ = (x5_1 ++ [rd l0 x6_1]) := ⟨_, rfl⟩
       replace H : (mosaicref13_Rest.l0 k1 l0 l1 y190 (wrap64 (x6_1 + 1))) = some r := by first | (rw [hy190]; with_reducible exact H) | (have H2_ := (Option.bind_some _ _).symm.trans H; rw [hy190]; with_reducible exact H2_) | (have H2_ := (Option.bind_some _ _).symm.trans H; with_reducible exact H2_) | with_reducible exact H | (rw [hy190]; exact H) | exact H
       have Ny190 := Aside0.mk hy190
       clear hy190
       have H' := Aside0.mk H
       clear H
       have p187 : 0 ≤ (x6_1 : Int) := of_decide_eq_true (by first | (with_reducible assumption) | assumption)
       have q187 : x6_1 < (l0.length : Int) := of_decide_eq_true (by first | (with_reducible assumption) | assumption)
       obtain ⟨ad187, e187, hx187_0⟩ := Kd.at_int HR0.out x6_1 p187 q187
       cases e187
       replace hx187_0 := (HB.out.cell (World.block_lt_of_cell? w _ hx187_0)).trans hx187_0
       replace p187 := eq_true p187
       replace q187 := eq_true q187
       go_wp2_with (first | ((with_reducible refine gate_callee (f := 21) rfl ?_); refine goesL_ (some 18) rfl rfl Try.func21 (by kernel_rfl) rfl #[.slice A1 l1.length c1, .int .i64 (rd l0 x6_1)] rfl (by (try simp only [List.map_toArray, List.map_cons, List.map_nil]); first | done | rfl | (simp only [List.length_drop, List.length_take]; rfl)) ?_; (with_reducible refine (mosaicref09_Has.calls k1 _ _ l1 (rd l0 x6_1) false _ ?side1 ?side2 A5.out).mono ?_); (case side1 => repeat (first | exact (Kd.C_below HR1.out HB.out) | (with_reducible refine Kd.C_alloc ?_ _) | (with_reducible refine Kd.C_drewN ?_ _) | (with_reducible refine Kd.C_drew ?_))); (case side2 => exact HC1.out); rintro e w' ⟨rfl, ⟨nd, rfl⟩⟩; refine ⟨_, rfl, ?_⟩; have p189 : 0 ≤ (x6_1 : Int) := of_decide_eq_true (by first | (with_reducible assumption) | assumption); have q189 : x6_1 < (l0.length : Int) := of_decide_eq_true (by first | (with_reducible assumption) | assumption); obtain ⟨ad189, e189, hx189_0⟩ := Kd.at_int HR0.out x6_1 p189 q189; obtain rfl : ad187 = ad189 := (by injection e189); replace hx189_0 := (HB.out.cell (World.block_lt_of_cell? w _ hx189_0)).trans hx189_0; replace p189 := eq_true p189; replace q189 := eq_true q189) | ((with_reducible refine gate_builtin (b := .append) (xs := #[.tmp 20, .tmp 25]) rfl ?_); at_builtin; refine Kd.R_append (Kd.int .i64) (w0 := w) w.heap.size rfl (.tmp 20) (.tmp 25) 23 3 (.int .i64 0) 8 rfl Try.underlying23 info3 rfl (by decide) (by omega) u5 x5_1 (rd l0 x6_1) [.int .i64 (rd l0 x6_1)] (fun _ => True) (fun _ => False) rfl rfl ?aP (fun _ hk => hk.elim) ?aF ?aO ?aB ?aS ?aL ?_; (case aP => exact rfl); (case aB => exact (by repeat (first | (with_reducible first | exact HB.out | apply below_alloc | apply pw_below_drewN | apply below_drew1) | exact HB.out))); (case aF => exact (fun _ _ => trivial)); (case aO => exact (by (with_reducible repeat (first | apply Kd.R_alloc | apply Kd.R_drewN | apply Kd.R_drew)); exact HO_5.out)); (case aS => exact (below_size (by repeat (first | (with_reducible first | exact HB.out | apply below_alloc | apply pw_below_drewN | apply below_drew1) | exact HB.out)))); (case aL => have := LMc7.out; omega); intro v191 w8 ho hb hg hat; rw [← Ny190.out] at ho; have n0_ := Aside0.mk (hb); have n1_ := Aside0.mk (ho); clear HB; clear HO_5; have HB := n0_; have HO192 := n1_; clear n0_ n1_; clear ho hb hg hat))
       go_roundg k1
       case measure => have := HK1.out; omega
       case rel => exact ⟨(y190), (wrap64 (x6_1 + 1)), (by first | rfl | (simp; done) | (simp [*]; done)), H', ⟨by have := HK1.out; omega⟩, ⟨by (with_reducible repeat (first | apply Kd.R_alloc | apply Kd.R_drewN | apply Kd.R_drew)); exact HO192.out⟩, ⟨by repeat (first | (with_reducible first | exact HB.out | apply below_alloc | apply pw_below_drewN | apply below_drew1) | exact HB.out)⟩⟩
      ·
       rw [if_neg c7] at H
       exact absurd H (by simp)
    ·
     rw [if_neg c4] at H
     exact absurd H (by simp)
   ·
    rw [if_neg c3] at H
    have c3b0 : decide (x6_1 < (l0.length : Int)) = false := decide_eq_false c3
    clear c3
    obtain rfl := Option.some.inj H
    go_wp2
    go_ret
    exact ⟨_, by first | rfl | (simp [errW_none, errW_some] <;> rfl) | (simp [*, errW_none, errW_some] <;> rfl), by (with_reducible repeat (first | apply Kd.R_alloc | apply Kd.R_drewN | apply Kd.R_drew)); exact HO_5.out, by repeat (first | (with_reducible first | exact HB.out | apply below_alloc | apply pw_below_drewN | apply below_drew1) | exact HB.out)⟩

end Go.Proofs.Ytnchcapdfmccjaa.Print
