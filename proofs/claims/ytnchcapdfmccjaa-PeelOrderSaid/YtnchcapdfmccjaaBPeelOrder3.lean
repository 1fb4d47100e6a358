/- The proof of the statement PeelOrder of the seat, part 3 of 3: the functions that it reaches, as plain functions, with the walks that show it, and what they come to; the last part ends in the row. No condition beyond the statement's own. -/
import Derived.Test.YtnchcapdfmccjaaRows
import Derived.WalkKit
import Derived.ProofKit
import Derived.OpenShut
import Derived.ShutString
import Derived.ChangeOld
import Derived.Below
import Derived.SizedLaws
import Derived.Carry
import Derived.Test.YtnchcapdfmccjaaBPeelOrder1
import Derived.Test.YtnchcapdfmccjaaBPeelOrder2
/-! #### Pr64 -/
-- By the kit's print, called by a program of this session with functions that are proved by hand.
namespace Go.Proofs.Ytnchcapdfmccjaa.Print
open Go.RowKit Go.Proofs.YtnchcapdfmccjaaW.PrintWords Go.Proofs.YtnchcapdfmccjaaW.PrintLast Go.Proofs.YtnchcapdfmccjaaW.PrintMore
attribute [local go_sem] max2_int min2_int max_two min_two max_three min_three max_four min_four
set_option linter.unusedVariables false
set_option linter.unusedSimpArgs false

/-! ### mosaicref13_Peel: function 64 -/
mutual
def mosaicref13_Peel.l0 : Nat → Int → List (List Int) → List Int → Int → List Int → Option ((List (S39)) × List Int)
 | 0, _, _, _, _, _ => none
 | k + 1, x0, x1, x2, x8, x195001 => if x8 < (x2.length : Int) then (if 0 ≤ x8 then (if x195001.length < 17592186044416 then (mosaicref13_Peel.l0 k x0 x1 x2 (wrap64 (x8 + 1)) (x195001 ++ [rd x2 x8])) else (none)) else (none)) else (mosaicref13_Peel.l1 k x0 x1 0 ([] : List (S39)) x195001)
def mosaicref13_Peel.l1 : Nat → Int → List (List Int) → Int → List (S39) → List Int → Option ((List (S39)) × List Int)
 | 0, _, _, _, _, _ => none
 | k + 1, x0, x1, x9, x195000, x195001 => if x9 < x0 then (mosaicref13_Peel.l2 k x0 x1 x9 (-1) 0 x195000 x195001) else (some (x195000, x195001))
def mosaicref13_Peel.l2 : Nat → Int → List (List Int) → Int → Int → Int → List (S39) → List Int → Option ((List (S39)) × List Int)
 | 0, _, _, _, _, _, _, _ => none
 | k + 1, x0, x1, x9, x10, x11, x195000, x195001 => if x11 < (x1.length : Int) then (mosaicref13_Peel.j3 k x0 x1 x9 x10 x11 (decide (x10 < 0)) x195000 x195001) else (mosaicref13_Peel.j3 k x0 x1 x9 x10 x11 false x195000 x195001)
def mosaicref13_Peel.j3 : Nat → Int → List (List Int) → Int → Int → Int → Bool → List (S39) → List Int → Option ((List (S39)) × List Int)
 | 0, _, _, _, _, _, _, _, _ => none
 | k + 1, x0, x1, x9, x10, x11, x40, x195000, x195001 => if x40 = true then (if 0 ≤ x11 then (if x11 < (x1.length : Int) then ((mosaicref13_Rest.f k (rd_L3 x1 x11) x195001).bind fun t200 => (if (t200.length : Int) = 1 then (mosaicref13_Peel.l2 k x0 x1 x9 x11 (wrap64 (x11 + 1)) x195000 x195001) else (mosaicref13_Peel.l2 k x0 x1 x9 x10 (wrap64 (x11 + 1)) x195000 x195001))) else (none)) else (none)) else (if x10 < 0 then (some (x195000, x195001)) else (if 0 ≤ x10 then (if x10 < (x1.length : Int) then ((mosaicref13_Rest.f k (rd_L3 x1 x10) x195001).bind fun t204 => (if 0 < (t204.length : Int) then (if x195000.length < 8796093022208 then (if x195001.length < 17592186044416 then (mosaicref13_Peel.l1 k x0 x1 (wrap64 (x9 + 1)) (x195000 ++ [(⟨x10, rd t204 0⟩ : S39)]) (x195001 ++ [rd t204 0])) else (none)) else (none)) else (none))) else (none)) else (none)))
end
def mosaicref13_Peel.f (k : Nat) (a0 : Int) (l1 : List (List Int)) (l2 : List Int) : Option ((List (S39)) × List Int) := mosaicref13_Peel.l0 k a0 l1 l2 0 ([] : List Int)
theorem mosaicref13_Peel.mono_l : ∀ k, (∀ y0 y1 y2 y3 y4, LeO (mosaicref13_Peel.l0 k y0 y1 y2 y3 y4) (mosaicref13_Peel.l0 (k + 1) y0 y1 y2 y3 y4)) ∧ (∀ y0 y1 y2 y3 y4, LeO (mosaicref13_Peel.l1 k y0 y1 y2 y3 y4) (mosaicref13_Peel.l1 (k + 1) y0 y1 y2 y3 y4)) ∧ (∀ y0 y1 y2 y3 y4 y5 y6, LeO (mosaicref13_Peel.l2 k y0 y1 y2 y3 y4 y5 y6) (mosaicref13_Peel.l2 (k + 1) y0 y1 y2 y3 y4 y5 y6)) ∧ (∀ y0 y1 y2 y3 y4 y5 y6 y7, LeO (mosaicref13_Peel.j3 k y0 y1 y2 y3 y4 y5 y6 y7) (mosaicref13_Peel.j3 (k + 1) y0 y1 y2 y3 y4 y5 y6 y7))
 | 0 => ⟨fun _ _ _ _ _ r h => by simp [mosaicref13_Peel.l0] at h, fun _ _ _ _ _ r h => by simp [mosaicref13_Peel.l1] at h, fun _ _ _ _ _ _ _ r h => by simp [mosaicref13_Peel.l2] at h, fun _ _ _ _ _ _ _ _ r h => by simp [mosaicref13_Peel.j3] at h⟩
 | k + 1 => by
  obtain ⟨ih0, ih1, ih2, ih3⟩ := mosaicref13_Peel.mono_l k
  refine ⟨?_, ?_, ?_, ?_⟩
  ·
   intro y0 y1 y2 y3 y4
   unfold mosaicref13_Peel.l0
   repeat' first
   | (with_reducible exact ih0 _ _ _ _ _)
   | (with_reducible exact ih1 _ _ _ _ _)
   | (with_reducible exact ih2 _ _ _ _ _ _ _)
   | (with_reducible exact ih3 _ _ _ _ _ _ _ _)
   | (with_reducible exact mosaicref13_Rest.mono _ _ _)
   | (with_reducible exact LeO.refl _)
   | (with_reducible exact LeO.none _)
   | (with_reducible refine LeO.ite ?_ ?_)
   | (with_reducible refine LeO.bind ?_ (fun _ => ?_))
   | exact ih0 _ _ _ _ _
   | exact ih1 _ _ _ _ _
   | exact ih2 _ _ _ _ _ _ _
   | exact ih3 _ _ _ _ _ _ _ _
   | exact mosaicref13_Rest.mono _ _ _
   | exact LeO.none _
   | refine LeO.ite ?_ ?_
   | refine LeO.bind ?_ (fun _ => ?_)
  ·
   intro y0 y1 y2 y3 y4
   unfold mosaicref13_Peel.l1
   repeat' first
   | (with_reducible exact ih0 _ _ _ _ _)
   | (with_reducible exact ih1 _ _ _ _ _)
   | (with_reducible exact ih2 _ _ _ _ _ _ _)
   | (with_reducible exact ih3 _ _ _ _ _ _ _ _)
   | (with_reducible exact mosaicref13_Rest.mono _ _ _)
   | (with_reducible exact LeO.refl _)
   | (with_reducible exact LeO.none _)
   | (with_reducible refine LeO.ite ?_ ?_)
   | (with_reducible refine LeO.bind ?_ (fun _ => ?_))
   | exact ih0 _ _ _ _ _
   | exact ih1 _ _ _ _ _
   | exact ih2 _ _ _ _ _ _ _
   | exact ih3 _ _ _ _ _ _ _ _
   | exact mosaicref13_Rest.mono _ _ _
   | exact LeO.none _
   | refine LeO.ite ?_ ?_
   | refine LeO.bind ?_ (fun _ => ?_)
  ·
   intro y0 y1 y2 y3 y4 y5 y6
   unfold mosaicref13_Peel.l2
   repeat' first
   | (with_reducible exact ih0 _ _ _ _ _)
   | (with_reducible exact ih1 _ _ _ _ _)
   | (with_reducible exact ih2 _ _ _ _ _ _ _)
   | (with_reducible exact ih3 _ _ _ _ _ _ _ _)
   | (with_reducible exact mosaicref13_Rest.mono _ _ _)
   | (with_reducible exact LeO.refl _)
   | (with_reducible exact LeO.none _)
   | (with_reducible refine LeO.ite ?_ ?_)
   | (with_reducible refine LeO.bind ?_ (fun _ => ?_))
   | exact ih0 _ _ _ _ _
   | exact ih1 _ _ _ _ _
   | exact ih2 _ _ _ _ _ _ _
   | exact ih3 _ _ _ _ _ _ _ _
   | exact mosaicref13_Rest.mono _ _ _
   | exact LeO.none _
   | refine LeO.ite ?_ ?_
   | refine LeO.bind ?_ (fun _ => ?_)
  ·
   intro y0 y1 y2 y3 y4 y5 y6 y7
   unfold mosaicref13_Peel.j3
   repeat' first
   | (with_reducible exact ih0 _ _ _ _ _)
   | (with_reducible exact ih1 _ _ _ _ _)
   | (with_reducible exact ih2 _ _ _ _ _ _ _)
   | (with_reducible exact ih3 _ _ _ _ _ _ _ _)
   | (with_reducible exact mosaicref13_Rest.mono _ _ _)
   | (with_reducible exact LeO.refl _)
   | (with_reducible exact LeO.none _)
   | (with_reducible refine LeO.ite ?_ ?_)
   | (with_reducible refine LeO.bind ?_ (fun _ => ?_))
   | exact ih0 _ _ _ _ _
   | exact ih1 _ _ _ _ _
   | exact ih2 _ _ _ _ _ _ _
   | exact ih3 _ _ _ _ _ _ _ _
   | exact mosaicref13_Rest.mono _ _ _
   | exact LeO.none _
   | refine LeO.ite ?_ ?_
   | refine LeO.bind ?_ (fun _ => ?_)
theorem mosaicref13_Peel.mono : ∀ a0 a1 a2 k, LeO (mosaicref13_Peel.f k a0 a1 a2) (mosaicref13_Peel.f (k + 1) a0 a1 a2) := by
 intro a0 a1 a2 k
 obtain ⟨ih0, ih1, ih2, ih3⟩ := mosaicref13_Peel.mono_l k
 unfold mosaicref13_Peel.f
 repeat' first
   | (with_reducible exact ih0 _ _ _ _ _)
   | (with_reducible exact ih1 _ _ _ _ _)
   | (with_reducible exact ih2 _ _ _ _ _ _ _)
   | (with_reducible exact ih3 _ _ _ _ _ _ _ _)
   | (with_reducible exact mosaicref13_Rest.mono _ _ _)
   | (with_reducible exact LeO.refl _)
   | (with_reducible exact LeO.none _)
   | (with_reducible refine LeO.ite ?_ ?_)
   | (with_reducible refine LeO.bind ?_ (fun _ => ?_))
   | exact ih0 _ _ _ _ _
   | exact ih1 _ _ _ _ _
   | exact ih2 _ _ _ _ _ _ _
   | exact ih3 _ _ _ _ _ _ _ _
   | exact mosaicref13_Rest.mono _ _ _
   | exact LeO.none _
   | refine LeO.ite ?_ ?_
   | refine LeO.bind ?_ (fun _ => ?_)
def mosaicref13_Peel.T5 : Bool × List (List Nat × List Nat) := (true, [([], []), ([0], [0]), ([], []), ([], []), ([2, 3], [2, 3]), ([4], [4]), ([5], [5]), ([1, 6], [1, 6]), ([0, 1, 2, 3, 4, 5, 6, 7], []), ([8, 7, 7, 0, 1, 2, 3, 4, 5, 6, 7], [7, 8])])
def mosaicref13_Peel.B5 : List Nat := [0, 1, 0, 0, 12, 28, 60, 127, 255, 511]
theorem mosaicref13_Peel.tab5 : rtab .any (opsOf Try.f64 5) = mosaicref13_Peel.T5 := by kernel_rfl
theorem mosaicref13_Peel.bits5 : waitsOk mosaicref13_Peel.T5.2 mosaicref13_Peel.B5 = true := by kernel_rfl
def mosaicref13_Peel.T13 : Bool × List (List Nat × List Nat) := (true, [([], []), ([], []), ([0, 1], [0, 1]), ([2], [2]), ([], []), ([4], [4]), ([3, 5], [3, 5]), ([6], [6]), ([7], [7])])
def mosaicref13_Peel.B13 : List Nat := [0, 0, 3, 7, 0, 16, 63, 127, 255]
theorem mosaicref13_Peel.tab13 : rtab .any (opsOf Try.f64 13) = mosaicref13_Peel.T13 := by kernel_rfl
theorem mosaicref13_Peel.bits13 : waitsOk mosaicref13_Peel.T13.2 mosaicref13_Peel.B13 = true := by kernel_rfl
def mosaicref13_Peel.T17 : Bool × List (List Nat × List Nat) := (true, [([], []), ([], []), ([0, 1], [0, 1]), ([2], [2]), ([], []), ([4], [4]), ([3, 5], [3, 5]), ([6], [6]), ([7], [7]), ([8, 6, 0, 1, 2, 3, 4, 5, 6, 7, 8], [8])])
def mosaicref13_Peel.B17 : List Nat := [0, 0, 3, 7, 0, 16, 63, 127, 255, 511]
theorem mosaicref13_Peel.tab17 : rtab .any (opsOf Try.f64 17) = mosaicref13_Peel.T17 := by kernel_rfl
theorem mosaicref13_Peel.bits17 : waitsOk mosaicref13_Peel.T17.2 mosaicref13_Peel.B17 = true := by kernel_rfl
set_option maxHeartbeats 8000000 in
set_option maxRecDepth 100000 in
theorem mosaicref13_Peel.calls (k : Nat) (a0 : Int) (A1 : Option Addr) (c1 : Nat) (l1 : List (List Int)) (A2 : Option Addr) (c2 : Nat) (l2 : List Int) (r1 : List (S39)) (r2 : List Int) (w : World) (hr1 : Kd.C (Kd.slice 3 (Kd.int .i64)) w A1 l1.length l1) (hc1 : l1.length ≤ c1) (hr2 : Kd.C (Kd.int .i64) w A2 l2.length l2) (hc2 : l2.length ≤ c2) (h : mosaicref13_Peel.f k a0 l1 l2 = some (r1, r2)) :
  Calls Try.prog 64 #[.int .i64 a0, .slice A1 l1.length c1, .slice A2 l2.length c2] w fun e w' => ∃ v0_ v1_ : Value, e = .returned (.agg #[v0_, v1_]) ∧ Kd.R k39 39 w' w.heap.size (fun _ => True) v0_ r1 ∧ Kd.R (Kd.int .i64) 3 w' w.heap.size (fun _ => True) v1_ r2 ∧ Below w.heap.size w w' := by
 have hu87 := Try.underlying87
 have hu39 := Try.underlying39
 have HR1 := Aside0.mk hr1
 have HC1 := Aside0.mk hc1
 clear hr1 hc1
 have HR2 := Aside0.mk hr2
 have HC2 := Aside0.mk hc2
 clear hr2 hc2
 have HB := Aside0.mk (Below.refl w.heap.size w)
 have H : (mosaicref13_Peel.l0 k a0 l1 l2 0 ([] : List Int)) = some (r1, r2) := h
 clear h
 have H' := Aside0.mk H
 clear H
 go_enter Try.func64, Try.ntmps64
 go_wp2_with (first | ((with_reducible refine gate_dst (N := 6) rfl ?_); refine box_event ?hg (N := 6) ?hd (cs := #[.slice none 0 0, .slice none 0 0]) (t := 87) ?hr ?_; (case hd => rfl); (case hg => rfl); (case hr => first | (go_simp; done) | (go_simp; rfl)); intro gb193 hg w4 hbox hb; have n0_ := Aside0.mk (below_step (by repeat (first | (with_reducible first | exact HB.out | apply below_alloc | apply pw_below_drewN | apply below_drew1) | exact HB.out)) hb); have n1_ := Aside0.mk (hbox); have n2_ := Aside0.mk ((by rw [hg]; exact (below_size (by repeat (first | (with_reducible first | exact HB.out | apply below_alloc | apply pw_below_drewN | apply below_drew1) | exact HB.out))) : w.heap.size ≤ gb193)); have n3_ := Aside0.mk ((by rw [hg]; exact (below_size (by repeat (first | (with_reducible first | exact HB.out | apply below_alloc | apply pw_below_drewN | apply below_drew1) | exact HB.out))) : w.heap.size ≤ gb193)); clear HB; have HB := n0_; have BK193 := n1_; have GW193 := n2_; have GE193 := n3_; clear n0_ n1_ n2_ n3_; clear hb hbox hg) | ((with_reducible refine gate_dst (N := 7) rfl ?_); refine box_event ?hg (N := 7) ?hd (cs := #[.slice none 0 0, .slice none 0 0]) (t := 87) ?hr ?_; (case hd => rfl); (case hg => rfl); (case hr => first | (go_simp; done) | (go_simp; rfl)); intro gb194 hg w5 hbox hb; have n0_ := Aside0.mk (blk_below (g := gb193) (o := .cells #[.slice none 0 0, .slice none 0 0] 87 (0, 0)) (by (with_reducible repeat (first | refine blk_drewN ?_ _ | refine blk_drew ?_ | refine blk_alloc ?_ _)); exact BK193.out) hb); have n1_ := Aside0.mk (below_step (by repeat (first | (with_reducible first | exact HB.out | apply below_alloc | apply pw_below_drewN | apply below_drew1 | refine below_set ?_ GE193.out) | exact HB.out)) hb); have n2_ := Aside0.mk (hbox); have n3_ := Aside0.mk ((by rw [hg]; exact (below_size (by repeat (first | (with_reducible first | exact HB.out | apply below_alloc | apply pw_below_drewN | apply below_drew1 | refine below_set ?_ GE193.out) | exact HB.out))) : w.heap.size ≤ gb194)); have n4_ := Aside0.mk ((by rw [hg]; exact (below_size (by repeat (first | (with_reducible first | exact HB.out | apply below_alloc | apply pw_below_drewN | apply below_drew1 | refine below_set ?_ GE193.out) | exact HB.out))) : w.heap.size ≤ gb194)); have n5_ := Aside0.mk ((by rw [hg]; exact Nat.ne_of_lt (blk_lt (g := gb193) (o := .cells #[.slice none 0 0, .slice none 0 0] 87 (0, 0)) (by (with_reducible repeat (first | refine blk_drewN ?_ _ | refine blk_drew ?_ | refine blk_alloc ?_ _)); exact BK193.out)) : gb193 ≠ gb194)); have n6_ := Aside0.mk ((by rw [hg]; exact Nat.ne_of_gt (blk_lt (g := gb193) (o := .cells #[.slice none 0 0, .slice none 0 0] 87 (0, 0)) (by (with_reducible repeat (first | refine blk_drewN ?_ _ | refine blk_drew ?_ | refine blk_alloc ?_ _)); exact BK193.out)) : gb194 ≠ gb193)); clear BK193; clear HB; have BK193 := n0_; have HB := n1_; have BK194 := n2_; have GW194 := n3_; have GE194 := n4_; have NB193_194 := n5_; have NB194_193 := n6_; clear n0_ n1_ n2_ n3_ n4_ n5_ n6_; clear hb hbox hg))
 go_loopg [8] k (fun kq v8 w' => ∃ (x8_1 : Int) (x195001_1 : List Int) (u195001 : Value), v8 = .int .i64 x8_1 ∧ Aside0 (mosaicref13_Peel.l0 kq a0 l1 l2 x8_1 x195001_1 = some (r1, r2)) ∧ Aside0 (kq ≤ k) ∧ Aside0 (Kd.R (Kd.int .i64) 3 w' w.heap.size (fun _ => True) u195001 x195001_1) ∧ Aside0 (w'.heap[gb193]? = some (.cells #[(.slice none 0 0), (.slice none 0 0)] 87 (0, 0))) ∧ Aside0 (w'.heap[gb194]? = some (.cells #[(.slice none 0 0), u195001] 87 (0, 0))) ∧ Aside0 (Below w.heap.size w w'))
 case atStart => exact ⟨(0), (([] : List Int)), (.slice none 0 0), (by first | rfl | (simp; done) | (simp [*]; done)), H', ⟨Nat.le_refl _⟩, ⟨by first | exact Kd.R_nil _ _ _ _ _ | exact Kd.N_nil _ _ _ _ _ | exact Kd.V_nil _ _ _ _ _ | exact Kd.Q_nil _ _ _ _ _ | exact Kd.S_nil _ _ _ _ _⟩, ⟨by (with_reducible repeat (first | refine blk_drewN ?_ _ | refine blk_drew ?_ | refine blk_alloc ?_ _)); exact BK193.out⟩, ⟨by (with_reducible repeat (first | refine blk_drewN ?_ _ | refine blk_drew ?_ | refine blk_alloc ?_ _)); exact BK194.out⟩, ⟨by repeat (first | (with_reducible first | exact HB.out | apply below_alloc | apply pw_below_drewN | apply below_drew1 | refine below_set ?_ GE193.out | refine below_set ?_ GE194.out) | exact HB.out)⟩⟩
 case round =>
  clear H'
  try clear c1
  try clear c2
  try clear p2
  obtain ⟨x8_1, x195001_1, u195001, rfl, HA, HK1, HO_195001, BK193, BK194, HB⟩ := hrel
  cases gk with
  | zero => exact absurd HA.out (by simp [mosaicref13_Peel.l0])
  | succ k1 =>
   have H := HA.out
   clear HA
   simp only [mosaicref13_Peel.l0] at H
   by_cases c6 : x8_1 < (l2.length : Int)
   ·
    rw [if_pos c6] at H
    have c6b0 : decide (x8_1 < (l2.length : Int)) = true := decide_eq_true c6
    clear c6
    by_cases c7 : 0 ≤ x8_1
    ·
     rw [if_pos c7] at H
     have c7b0 : decide (0 ≤ x8_1) = true := decide_eq_true c7
     clear c7
     by_cases c8 : x195001_1.length < 17592186044416
     ·
      rw [if_pos c8] at H
      have LMc8 := Aside0.mk c8
      clear c8
      obtain ⟨y196, hy196⟩ : ∃ y_ : List Int, y_ = (x195001_1 ++ [rd l2 x8_1]) := ⟨_, rfl⟩
      replace H : (mosaicref13_Peel.l0 k1 a0 l1 l2 (wrap64 (x8_1 + 1)) y196) = some (r1, r2) := by first | (rw [hy196]; with_reducible exact H) | (have H2_ := (Option.bind_some _ _).symm.trans H; rw [hy196]; with_reducible exact H2_) | (have H2_ := (Option.bind_some _ _).symm.trans H; with_reducible exact H2_) | with_reducible exact H | (rw [hy196]; exact H) | exact H
      have Ny196 := Aside0.mk hy196
      clear hy196
      have H' := Aside0.mk H
      clear H
      try go_wp2
      have n0_ := Aside0.mk (Kd.R_drew HO_195001.out)
      have n1_ := Aside0.mk (blk_drew BK193.out)
      have n2_ := Aside0.mk (blk_drew BK194.out)
      have n3_ := Aside0.mk (below_drew1 HB.out)
      clear HO_195001
      clear BK193
      clear BK194
      clear HB
      have HO_195001 := n0_
      have BK193 := n1_
      have BK194 := n2_
      have HB := n3_
      clear n0_ n1_ n2_ n3_
      have p195 : 0 ≤ (x8_1 : Int) := of_decide_eq_true (by first | (with_reducible assumption) | assumption)
      have q195 : x8_1 < (l2.length : Int) := of_decide_eq_true (by first | (with_reducible assumption) | assumption)
      obtain ⟨ad195, e195, hx195_0⟩ := Kd.at_int HR2.out x8_1 p195 q195
      have hw195_0 := hx195_0
      cases e195
      replace hx195_0 := (HB.out.cell (World.block_lt_of_cell? w _ hx195_0)).trans hx195_0
      replace p195 := eq_true p195
      replace q195 := eq_true q195
      refine start_ (n := 10) (S := fun w' => w'.cell? ⟨gb194, 0, none⟩ = some (.slice none 0 0) ∧ w'.cell? ⟨gb194, 1, none⟩ = some (u195001) ∧ w'.cell? (ad195.add (x8_1).toNat) = some (.int .i64 (rd l2 x8_1))) (ds := [9]) #[false, false, false, false, false, false, false, false, false, false] (by kernel_rfl) rfl rfl ⟨(blk_cell BK194.out 0).trans rfl, (blk_cell BK194.out 1).trans rfl, ((HB.out.cell (World.block_lt_of_cell? w _ hw195_0)).trans hw195_0)⟩ (fun hHeld => ?_); refine with_tabW mosaicref13_Peel.tab5 mosaicref13_Peel.bits5 (fun HT_ HW_ => ?_)
      generalize wr.drew = w9 at HO_195001 BK193 BK194 HB hx195_0 hHeld ⊢
      refine pure_ (i := 0) (N := some 19) (v := ?_) (a' := ?_) #[true, false, false, false, false, false, false, false, false, false] rfl rfl (any_of HT_.out (by kernel_rfl)) (fun _ _ _ h => h) (Or.inl ⟨by rfl, ?_⟩) ?_ ?_
      rotate_left
      ·
       intro w'
       go_simp
       with_reducible rfl
      rotate_left
      ·
       simp only [Act.put, List.setIfInBounds_toArray, List.set_cons_zero, List.set_cons_succ, i64_w, i32_w]
       rfl
      refine pure_ (i := 2) (N := some 21) (v := ?_) (a' := ?_) #[true, false, true, false, false, false, false, false, false, false] rfl rfl (any_of HT_.out (by kernel_rfl)) (fun _ _ _ h => h) (Or.inl ⟨by rfl, ?_⟩) ?_ ?_
      rotate_left
      ·
       intro w'
       go_simp
       with_reducible rfl
      rotate_left
      ·
       simp only [Act.put, List.setIfInBounds_toArray, List.set_cons_zero, List.set_cons_succ, i64_w, i32_w]
       rfl
      refine pure_ (i := 3) (N := some 22) (v := ?_) (a' := ?_) #[true, false, true, true, false, false, false, false, false, false] rfl rfl (any_of HT_.out (by kernel_rfl)) (fun _ _ _ h => h) (Or.inl ⟨by rfl, ?_⟩) ?_ ?_
      rotate_left
      ·
       intro w'
       go_simp
       with_reducible rfl
      rotate_left
      ·
       simp only [Act.put, List.setIfInBounds_toArray, List.set_cons_zero, List.set_cons_succ, i64_w, i32_w]
       rfl
      refine pure_ (i := 4) (N := some 23) (v := ?_) (a' := ?_) #[true, false, true, true, true, false, false, false, false, false] rfl rfl (any_of HT_.out (by kernel_rfl)) (fun _ _ _ h => h) (Or.inl ⟨by rfl, ?_⟩) ?_ ?_
      rotate_left
      ·
       intro w'
       go_simp
       with_reducible rfl
      rotate_left
      ·
       simp only [Act.put, List.setIfInBounds_toArray, List.set_cons_zero, List.set_cons_succ, i64_w, i32_w]
       rfl
      refine take_ (i := 1) (N := some 20) (v := ?_) (a' := ?_) #[true, true, true, true, true, false, false, false, false, false] rfl rfl (take_ofW HT_.out HW_.out (by kernel_rfl)) (fun _ _ _ h => h) (Or.inl ⟨by rfl, ?_⟩) hHeld ?_ ?_
      rotate_left
      ·
       rintro w' ⟨s0, s1, s2⟩
       go_simp
       with_reducible rfl
      rotate_left
      ·
       simp only [Act.put, List.setIfInBounds_toArray, List.set_cons_zero, List.set_cons_succ, i64_w, i32_w]
       rfl
      refine take_ (i := 5) (N := some 24) (v := ?_) (a' := ?_) #[true, true, true, true, true, true, false, false, false, false] rfl rfl (take_ofW HT_.out HW_.out (by kernel_rfl)) (fun _ _ _ h => h) (Or.inl ⟨by rfl, ?_⟩) hHeld ?_ ?_
      rotate_left
      ·
       rintro w' ⟨s0, s1, s2⟩
       go_simp
       with_reducible rfl
      rotate_left
      ·
       simp only [Act.put, List.setIfInBounds_toArray, List.set_cons_zero, List.set_cons_succ, i64_w, i32_w]
       rfl
      refine one_ (i := 6) (N := some 25) #[true, true, true, true, true, true, true, false, false, false] rfl rfl (one_of HT_.out (by kernel_rfl)) (by decide) (fun K hK => ?_)
      refine value_ (w1 := ?_) (v := ?_) (by rfl) rfl ?_ ?_
      rotate_left 2
      ·
       go_simp
       constructor
       ·
        rfl
       ·
        rfl
      refine hK.out _ _ ⟨(blk_cell (blk_alloc BK194.out _) 0).trans rfl, (blk_cell (blk_alloc BK194.out _) 1).trans rfl, (World.cell?_alloc_lt _ _ _ (World.block_lt_of_cell? _ _ (((HB.out.cell (World.block_lt_of_cell? w _ hw195_0)).trans hw195_0)))).trans (((HB.out.cell (World.block_lt_of_cell? w _ hw195_0)).trans hw195_0))⟩ (fun hHeld => ?_)
      clear hK K
      refine norm_ (a' := ?_) ?_ ?_
      rotate_left
      ·
       show Act.put _ (some 25) _ = _
       simp only [Act.put, List.setIfInBounds_toArray, List.set_cons_zero, List.set_cons_succ, i64_w, i32_w]
       rfl
      refine one_ (i := 7) (N := some 26) #[true, true, true, true, true, true, true, true, false, false] rfl rfl (one_of HT_.out (by kernel_rfl)) (by decide) (fun K hK => ?_)
      refine Kd.R_append_step (Kd.int .i64) (w0 := w) w.heap.size (by rfl) (.tmp 20) (.tmp 25) 23 3 (.int .i64 0) 8 rfl Try.underlying23 info3 rfl (by decide) (by omega) u195001 x195001_1 (rd l2 x8_1) [.int .i64 (rd l2 x8_1)] (fun _ => True) (fun _ => False) rfl rfl ?aP (fun _ hk => hk.elim) ?aF ?aO ?aB ?aS ?aL ?_
      (case aP => exact rfl)
      (case aB => exact (by repeat (first | (with_reducible first | exact HB.out | apply below_alloc | apply pw_below_drewN | apply below_drew1 | refine below_set ?_ GE193.out | refine below_set ?_ GE194.out) | exact HB.out)))
      (case aF => exact (fun _ _ => trivial))
      (case aO => exact (by (with_reducible repeat (first | apply Kd.R_alloc | apply Kd.R_drewN | apply Kd.R_drew)); exact HO_195001.out))
      (case aS => exact (below_size (by repeat (first | (with_reducible first | exact HB.out | apply below_alloc | apply pw_below_drewN | apply below_drew1 | refine below_set ?_ GE193.out | refine below_set ?_ GE194.out) | exact HB.out))))
      (case aL => have := LMc8.out; omega)
      intro v197 w10 ho hb hg hat
      rw [← Ny196.out] at ho
      have n0_ := Aside0.mk (blk_grown (g := gb193) (o := .cells #[.slice none 0 0, .slice none 0 0] 87 (0, 0)) (by (with_reducible repeat (first | refine blk_drewN ?_ _ | refine blk_drew ?_ | refine blk_alloc ?_ _)); exact BK193.out) hg (Kd.R_ne HO_195001.out BK193.out (by decide)))
      have n1_ := Aside0.mk (blk_grown (g := gb194) (o := .cells #[.slice none 0 0, u195001] 87 (0, 0)) (by (with_reducible repeat (first | refine blk_drewN ?_ _ | refine blk_drew ?_ | refine blk_alloc ?_ _)); exact BK194.out) hg (Kd.R_ne HO_195001.out BK194.out (by decide)))
      have n2_ := Aside0.mk (hb)
      have n3_ := Aside0.mk (ho)
      clear BK193
      clear BK194
      clear HB
      clear HO_195001
      have BK193 := n0_
      have BK194 := n1_
      have HB := n2_
      have HO198 := n3_
      clear n0_ n1_ n2_ n3_
      clear ho hb hg hat
      obtain ⟨Ao11, co11, eo11⟩ := Kd.R_slice HO198.out
      (first | subst eo11 | (injection eo11 with f1_ f2_ f3_; have f4_ := f1_.symm; have f5_ := f3_.symm; clear f1_ f2_ f3_; subst f4_; subst f5_))
      refine hK.out _ _ ⟨(blk_cell BK194.out 0).trans rfl, (blk_cell BK194.out 1).trans rfl, ((HB.out.cell (World.block_lt_of_cell? w _ hw195_0)).trans hw195_0)⟩ (fun hHeld => ?_)
      clear hK K
      refine norm_ (a' := ?_) ?_ ?_
      rotate_left
      ·
       show Act.put _ (some 26) _ = _
       simp only [Act.put, List.setIfInBounds_toArray, List.set_cons_zero, List.set_cons_succ, i64_w, i32_w]
       rfl
      refine pure_ (i := 8) (N := some 27) (v := ?_) (a' := ?_) #[true, true, true, true, true, true, true, true, true, false] rfl rfl (any_of HT_.out (by kernel_rfl)) (fun _ _ _ h => h) (Or.inl ⟨by rfl, ?_⟩) ?_ ?_
      rotate_left
      ·
       intro w'
       go_simp
       with_reducible rfl
      rotate_left
      ·
       simp only [Act.put, List.setIfInBounds_toArray, List.set_cons_zero, List.set_cons_succ, i64_w, i32_w]
       rfl
      refine last_ (i := 9) (N := none) #[true, true, true, true, true, true, true, true, true, true] rfl rfl (one_of HT_.out (by kernel_rfl)) (by decide) (fun K hK => ?_)
      have hs12 : w10.cell? ⟨gb194, 1, none⟩ = some (u195001) := (blk_cell BK194.out 1).trans rfl
      have hfs12 := blk_frozen BK194.out 1
      have hns12_0 := NB193_194.out
      have hms12_0 := NB194_193.out
      refine skip_ (w1 := ?_) (by rfl) rfl ?_ ?_
      rotate_left
      ·
       go_simp
       rfl
      refine hK.out _ _ ?_
      clear hK K
      refine done_ (done_of HT_.out (by kernel_rfl)) ?_
      try go_wp2
      go_roundg k1
      case measure => have := HK1.out; omega
      case rel => exact ⟨(wrap64 (x8_1 + 1)), (y196), (.slice Ao11 y196.length co11), (by first | rfl | (simp; done) | (simp [*]; done)), H', ⟨by have := HK1.out; omega⟩, ⟨by (with_reducible repeat (first | apply Kd.R_alloc | apply Kd.R_drewN | apply Kd.R_drew)); exact Kd.R_mono (Kd.R_far (p := ⟨gb194, 1, none⟩) (Kd.R_types HO198.out BK194.out (by decide)) (fun _ hk => hk.2) (.slice Ao11 y196.length co11)) (fun _ hk => trivial)⟩, ⟨by (with_reducible repeat (first | refine blk_drewN ?_ _ | refine blk_drew ?_ | refine blk_alloc ?_ _)); refine blk_far ?_ NB193_194.out _; (with_reducible repeat (first | refine blk_drewN ?_ _ | refine blk_drew ?_ | refine blk_alloc ?_ _)); exact BK193.out⟩, ⟨by (with_reducible repeat (first | refine blk_drewN ?_ _ | refine blk_drew ?_ | refine blk_alloc ?_ _)); refine blk_put (cs := #[.slice none 0 0, u195001]) ?_ 1 _ rfl; (with_reducible repeat (first | refine blk_drewN ?_ _ | refine blk_drew ?_ | refine blk_alloc ?_ _)); exact BK194.out⟩, ⟨by repeat (first | (with_reducible first | exact HB.out | apply below_alloc | apply pw_below_drewN | apply below_drew1 | refine below_set ?_ GE193.out | refine below_set ?_ GE194.out) | exact HB.out)⟩⟩
     ·
      rw [if_neg c8] at H
      exact absurd H (by simp)
    ·
     rw [if_neg c7] at H
     exact absurd H (by simp)
   ·
    rw [if_neg c6] at H
    have c6b0 : decide (x8_1 < (l2.length : Int)) = false := decide_eq_false c6
    clear c6
    have H' := Aside0.mk H
    clear H
    go_wp2
    go_loopg [9] k1 (fun kq v9 w' => ∃ (x9_2 : Int) (x195000_2 : List (S39)) (x195001_2 : List Int) (u195000 : Value) (u195001 : Value), v9 = .int .i64 x9_2 ∧ Aside0 (mosaicref13_Peel.l1 kq a0 l1 x9_2 x195000_2 x195001_2 = some (r1, r2)) ∧ Aside0 (kq ≤ k1) ∧ Aside0 (Kd.R k39 39 w' w.heap.size (fun _ => True) u195000 x195000_2) ∧ Aside0 (Kd.R (Kd.int .i64) 3 w' w.heap.size (fun _ => True) u195001 x195001_2) ∧ Aside0 (w'.heap[gb193]? = some (.cells #[(.slice none 0 0), (.slice none 0 0)] 87 (0, 0))) ∧ Aside0 (w'.heap[gb194]? = some (.cells #[u195000, u195001] 87 (0, 0))) ∧ Aside0 (Below w.heap.size w w'))
    case atStart => exact ⟨(0), (([] : List (S39))), (x195001_1), (.slice none 0 0), (u195001), (by first | rfl | (simp; done) | (simp [*]; done)), H', ⟨Nat.le_refl _⟩, ⟨by first | exact Kd.R_nil _ _ _ _ _ | exact Kd.N_nil _ _ _ _ _ | exact Kd.V_nil _ _ _ _ _ | exact Kd.Q_nil _ _ _ _ _ | exact Kd.S_nil _ _ _ _ _⟩, ⟨by (with_reducible repeat (first | apply Kd.R_alloc | apply Kd.R_drewN | apply Kd.R_drew)); exact HO_195001.out⟩, ⟨by (with_reducible repeat (first | refine blk_drewN ?_ _ | refine blk_drew ?_ | refine blk_alloc ?_ _)); exact BK193.out⟩, ⟨by (with_reducible repeat (first | refine blk_drewN ?_ _ | refine blk_drew ?_ | refine blk_alloc ?_ _)); exact BK194.out⟩, ⟨by repeat (first | (with_reducible first | exact HB.out | apply below_alloc | apply pw_below_drewN | apply below_drew1 | refine below_set ?_ GE193.out | refine below_set ?_ GE194.out) | exact HB.out)⟩⟩
    case round =>
     clear H'
     try clear c1
     try clear p1
     try clear q1
     try clear hx1
     try clear c2
     try clear p2
     try clear c6
     try clear c6b0
     try clear p6
     try clear c7
     try clear c7b0
     try clear c8
     try clear hx195_0
     try clear p195
     try clear p2
     try clear q195
     obtain ⟨x9_2, x195000_2, x195001_2, u195000, u195001, rfl, HA, HK2, HO_195000, HO_195001, BK193, BK194, HB⟩ := hrel
     cases gk with
     | zero => exact absurd HA.out (by simp [mosaicref13_Peel.l1])
     | succ k2 =>
      have H := HA.out
      clear HA
      simp only [mosaicref13_Peel.l1] at H
      by_cases c13 : x9_2 < a0
      ·
       rw [if_pos c13] at H
       have c13b0 : decide (x9_2 < a0) = true := decide_eq_true c13
       clear c13
       have H' := Aside0.mk H
       clear H
       go_wp2
       go_loopg [10, 11] k2 (fun kq v10 v11 w' => ∃ (x10_3 : Int) (x11_3 : Int), v10 = .int .i64 x10_3 ∧ v11 = .int .i64 x11_3 ∧ Aside0 (mosaicref13_Peel.l2 kq a0 l1 x9_2 x10_3 x11_3 x195000_2 x195001_2 = some (r1, r2)) ∧ Aside0 (kq ≤ k2) ∧ Aside0 (Kd.R k39 39 w' w.heap.size (fun _ => True) u195000 x195000_2) ∧ Aside0 (Kd.R (Kd.int .i64) 3 w' w.heap.size (fun _ => True) u195001 x195001_2) ∧ Aside0 (w'.heap[gb193]? = some (.cells #[(.slice none 0 0), (.slice none 0 0)] 87 (0, 0))) ∧ Aside0 (w'.heap[gb194]? = some (.cells #[u195000, u195001] 87 (0, 0))) ∧ Aside0 (Below w.heap.size w w'))
       case atStart => exact ⟨((-1)), (0), (by first | rfl | (simp; done) | (simp [*]; done)), (by first | rfl | (simp; done) | (simp [*]; done)), H', ⟨Nat.le_refl _⟩, ⟨by (with_reducible repeat (first | apply Kd.R_alloc | apply Kd.R_drewN | apply Kd.R_drew)); exact HO_195000.out⟩, ⟨by (with_reducible repeat (first | apply Kd.R_alloc | apply Kd.R_drewN | apply Kd.R_drew)); exact HO_195001.out⟩, ⟨by (with_reducible repeat (first | refine blk_drewN ?_ _ | refine blk_drew ?_ | refine blk_alloc ?_ _)); exact BK193.out⟩, ⟨by (with_reducible repeat (first | refine blk_drewN ?_ _ | refine blk_drew ?_ | refine blk_alloc ?_ _)); exact BK194.out⟩, ⟨by repeat (first | (with_reducible first | exact HB.out | apply below_alloc | apply pw_below_drewN | apply below_drew1 | refine below_set ?_ GE193.out | refine below_set ?_ GE194.out) | exact HB.out)⟩⟩
       case round =>
        clear H'
        try clear c1
        try clear p1
        try clear q1
        try clear hx1
        try clear c2
        try clear p2
        try clear c6
        try clear c6b0
        try clear p6
        try clear c7
        try clear c7b0
        try clear c8
        try clear c13
        try clear c13b0
        try clear hx195_0
        try clear p1
        try clear p195
        try clear p2
        try clear p6
        try clear q1
        try clear q195
        obtain ⟨x10_3, x11_3, rfl, rfl, HA, HK3, HO_195000, HO_195001, BK193, BK194, HB⟩ := hrel
        cases gk with
        | zero => exact absurd HA.out (by simp [mosaicref13_Peel.l2])
        | succ k3 =>
         have H := HA.out
         clear HA
         simp only [mosaicref13_Peel.l2] at H
         have HC14 := Aside0.mk H
         clear H
         go_upto_region 11 with (fail)
         go_cut [40] (fun v40 wc => ∃ (kq : Nat) (x40_13 : Bool), v40 = .bool x40_13 ∧ Aside0 (mosaicref13_Peel.j3 kq a0 l1 x9_2 x10_3 x11_3 x40_13 x195000_2 x195001_2 = some (r1, r2)) ∧ Aside0 (kq ≤ k3) ∧ Aside0 (Kd.R k39 39 wc w.heap.size (fun _ => True) u195000 x195000_2) ∧ Aside0 (Kd.R (Kd.int .i64) 3 wc w.heap.size (fun _ => True) u195001 x195001_2) ∧ Aside0 (wc.heap[gb193]? = some (.cells #[(.slice none 0 0), (.slice none 0 0)] 87 (0, 0))) ∧ Aside0 (wc.heap[gb194]? = some (.cells #[u195000, u195001] 87 (0, 0))) ∧ Aside0 (Below w.heap.size w wc))
         case first =>
          have H := HC14.out
          clear HC14
          by_cases c15 : x11_3 < (l1.length : Int)
          ·
           rw [if_pos c15] at H
           have c15b0 : decide (x11_3 < (l1.length : Int)) = true := decide_eq_true c15
           clear c15
           (first | rw [c15b0] | (simp only [i64_w, i32_w]; rw [c15b0]) | skip)
           have H' := Aside0.mk H
           clear H
           go_wp2
           go_meet
           case rel => exact ⟨_, (decide (x10_3 < 0)), (by first | rfl | (simp; done) | (simp [*]; done)), H', ⟨by have := HK1.out; have := HK2.out; have := HK3.out; first | omega | exact Nat.le_refl _⟩, ⟨by (with_reducible repeat (first | apply Kd.R_alloc | apply Kd.R_drewN | apply Kd.R_drew)); exact HO_195000.out⟩, ⟨by (with_reducible repeat (first | apply Kd.R_alloc | apply Kd.R_drewN | apply Kd.R_drew)); exact HO_195001.out⟩, ⟨by (with_reducible repeat (first | refine blk_drewN ?_ _ | refine blk_drew ?_ | refine blk_alloc ?_ _)); exact BK193.out⟩, ⟨by (with_reducible repeat (first | refine blk_drewN ?_ _ | refine blk_drew ?_ | refine blk_alloc ?_ _)); exact BK194.out⟩, ⟨by repeat (first | (with_reducible first | exact HB.out | apply below_alloc | apply pw_below_drewN | apply below_drew1 | refine below_set ?_ GE193.out | refine below_set ?_ GE194.out) | exact HB.out)⟩⟩
          ·
           rw [if_neg c15] at H
           have c15b0 : decide (x11_3 < (l1.length : Int)) = false := decide_eq_false c15
           clear c15
           (first | rw [c15b0] | (simp only [i64_w, i32_w]; rw [c15b0]) | skip)
           have H' := Aside0.mk H
           clear H
           go_wp2
           go_meet
           case rel => exact ⟨_, (false), (by first | rfl | (simp; done) | (simp [*]; done)), H', ⟨by have := HK1.out; have := HK2.out; have := HK3.out; first | omega | exact Nat.le_refl _⟩, ⟨by (with_reducible repeat (first | apply Kd.R_alloc | apply Kd.R_drewN | apply Kd.R_drew)); exact HO_195000.out⟩, ⟨by (with_reducible repeat (first | apply Kd.R_alloc | apply Kd.R_drewN | apply Kd.R_drew)); exact HO_195001.out⟩, ⟨by (with_reducible repeat (first | refine blk_drewN ?_ _ | refine blk_drew ?_ | refine blk_alloc ?_ _)); exact BK193.out⟩, ⟨by (with_reducible repeat (first | refine blk_drewN ?_ _ | refine blk_drew ?_ | refine blk_alloc ?_ _)); exact BK194.out⟩, ⟨by repeat (first | (with_reducible first | exact HB.out | apply below_alloc | apply pw_below_drewN | apply below_drew1 | refine below_set ?_ GE193.out | refine below_set ?_ GE194.out) | exact HB.out)⟩⟩
         case rest =>
          clear HC14
          try clear c1
          try clear p1
          try clear q1
          try clear hx1
          try clear c2
          try clear p2
          try clear c6
          try clear c6b0
          try clear p6
          try clear c7
          try clear c7b0
          try clear c8
          try clear c13
          try clear c13b0
          try clear c15
          try clear c15b0
          try clear hx195_0
          try clear p1
          try clear p195
          try clear p2
          try clear p6
          try clear q1
          try clear q195
          obtain ⟨kq, x40_13, rfl, HA, HJ13, HO_195000, HO_195001, BK193, BK194, HB⟩ := hcut
          cases kq with
          | zero => exact absurd HA.out (by simp [mosaicref13_Peel.j3])
          | succ kj13 =>
           have H := HA.out
           clear HA
           simp only [mosaicref13_Peel.j3] at H
           by_cases c16 : x40_13 = true
           ·
            subst c16
            have H1 : (if 0 ≤ x11_3 then (if x11_3 < (l1.length : Int) then ((mosaicref13_Rest.f kj13 (rd_L3 l1 x11_3) x195001_2).bind fun t200 => (if (t200.length : Int) = 1 then (mosaicref13_Peel.l2 kj13 a0 l1 x9_2 x11_3 (wrap64 (x11_3 + 1)) x195000_2 x195001_2) else (mosaicref13_Peel.l2 kj13 a0 l1 x9_2 x10_3 (wrap64 (x11_3 + 1)) x195000_2 x195001_2))) else (none)) else (none)) = some (r1, r2) := by rw [if_pos rfl] at H; exact H
            clear H
            have H := H1
            clear H1
            by_cases c17 : 0 ≤ x11_3
            ·
             rw [if_pos c17] at H
             have c17b0 : decide (0 ≤ x11_3) = true := decide_eq_true c17
             clear c17
             by_cases c18 : x11_3 < (l1.length : Int)
             ·
              rw [if_pos c18] at H
              have c18b0 : decide (x11_3 < (l1.length : Int)) = true := decide_eq_true c18
              clear c18
              replace H := Option.bind_eq_some_iff.mp H
              obtain ⟨t200, A190, H⟩ := H
              replace H : (if (t200.length : Int) = 1 then (mosaicref13_Peel.l2 kj13 a0 l1 x9_2 x11_3 (wrap64 (x11_3 + 1)) x195000_2 x195001_2) else (mosaicref13_Peel.l2 kj13 a0 l1 x9_2 x10_3 (wrap64 (x11_3 + 1)) x195000_2 x195001_2)) = some (r1, r2) := H
              have A19 := Aside0.mk A190
              clear A190
              by_cases c20 : (t200.length : Int) = 1
              ·
               rw [if_pos c20] at H
               have c20b0 : ((t200.length : Int) == 1) = true := beq_iff_eq.mpr c20
               have c20b1 : ((t200.length : Int) != 1) = false := bne_eq_false_iff_eq.mpr c20
               clear c20
               have H' := Aside0.mk H
               clear H
               try go_wp2
               have n0_ := Aside0.mk (Kd.R_drew HO_195000.out)
               have n1_ := Aside0.mk (Kd.R_drew HO_195001.out)
               have n2_ := Aside0.mk (blk_drew BK193.out)
               have n3_ := Aside0.mk (blk_drew BK194.out)
               have n4_ := Aside0.mk (below_drew1 HB.out)
               clear HO_195000
               clear HO_195001
               clear BK193
               clear BK194
               clear HB
               have HO_195000 := n0_
               have HO_195001 := n1_
               have BK193 := n2_
               have BK194 := n3_
               have HB := n4_
               clear n0_ n1_ n2_ n3_ n4_
               have p199 : 0 ≤ (x11_3 : Int) := of_decide_eq_true (by first | (with_reducible assumption) | assumption)
               have q199 : x11_3 < (l1.length : Int) := of_decide_eq_true (by first | (with_reducible assumption) | assumption)
               obtain ⟨ad199, A199_0, c199_0, e199, hx199_0, hl199_0, hi199_0⟩ := at_L3 HR1.out x11_3 p199 q199
               have hw199_0 := hx199_0
               cases e199
               replace hx199_0 := (HB.out.cell (World.block_lt_of_cell? w _ hx199_0)).trans hx199_0
               have HR199_0 := Aside0.mk hi199_0
               have HC199_0 := Aside0.mk hl199_0
               clear hi199_0 hl199_0
               replace p199 := eq_true p199
               replace q199 := eq_true q199
               obtain ⟨Ao22, co22, eo22⟩ := Kd.R_slice HO_195001.out
               (first | subst eo22 | (injection eo22 with f1_ f2_ f3_; have f4_ := f1_.symm; have f5_ := f3_.symm; clear f1_ f2_ f3_; subst f4_; subst f5_))
               refine start_ (n := 9) (S := fun w' => w'.cell? ⟨gb194, 0, none⟩ = some (u195000) ∧ w'.cell? ⟨gb194, 1, none⟩ = some (.slice Ao22 x195001_2.length co22) ∧ w'.cell? (ad199.add (x11_3).toNat) = some (.slice A199_0 (rd_L3 l1 x11_3).length c199_0)) (ds := []) #[false, false, false, false, false, false, false, false, false] (by kernel_rfl) rfl rfl ⟨(blk_cell BK194.out 0).trans rfl, (blk_cell BK194.out 1).trans rfl, ((HB.out.cell (World.block_lt_of_cell? w _ hw199_0)).trans hw199_0)⟩ (fun hHeld => ?_); refine with_tabW mosaicref13_Peel.tab13 mosaicref13_Peel.bits13 (fun HT_ HW_ => ?_)
               generalize wc.drew = w21 at HO_195000 HO_195001 BK193 BK194 HB HR199_0 hx199_0 hHeld ⊢
               refine pure_ (i := 0) (N := some 43) (v := ?_) (a' := ?_) #[true, false, false, false, false, false, false, false, false] rfl rfl (any_of HT_.out (by kernel_rfl)) (fun _ _ _ h => h) (Or.inl ⟨by rfl, ?_⟩) ?_ ?_
               rotate_left
               ·
                intro w'
                go_simp
                with_reducible rfl
               rotate_left
               ·
                simp only [Act.put, List.setIfInBounds_toArray, List.set_cons_zero, List.set_cons_succ, i64_w, i32_w]
                rfl
               refine pure_ (i := 1) (N := some 44) (v := ?_) (a' := ?_) #[true, true, false, false, false, false, false, false, false] rfl rfl (any_of HT_.out (by kernel_rfl)) (fun _ _ _ h => h) (Or.inl ⟨by rfl, ?_⟩) ?_ ?_
               rotate_left
               ·
                intro w'
                go_simp
                with_reducible rfl
               rotate_left
               ·
                simp only [Act.put, List.setIfInBounds_toArray, List.set_cons_zero, List.set_cons_succ, i64_w, i32_w]
                rfl
               refine pure_ (i := 2) (N := some 45) (v := ?_) (a' := ?_) #[true, true, true, false, false, false, false, false, false] rfl rfl (any_of HT_.out (by kernel_rfl)) (fun _ _ _ h => h) (Or.inl ⟨by rfl, ?_⟩) ?_ ?_
               rotate_left
               ·
                intro w'
                go_simp
                with_reducible rfl
               rotate_left
               ·
                simp only [Act.put, List.setIfInBounds_toArray, List.set_cons_zero, List.set_cons_succ, i64_w, i32_w]
                rfl
               refine pure_ (i := 4) (N := some 47) (v := ?_) (a' := ?_) #[true, true, true, false, true, false, false, false, false] rfl rfl (any_of HT_.out (by kernel_rfl)) (fun _ _ _ h => h) (Or.inl ⟨by rfl, ?_⟩) ?_ ?_
               rotate_left
               ·
                intro w'
                go_simp
                with_reducible rfl
               rotate_left
               ·
                simp only [Act.put, List.setIfInBounds_toArray, List.set_cons_zero, List.set_cons_succ, i64_w, i32_w]
                rfl
               refine take_ (i := 3) (N := some 46) (v := ?_) (a' := ?_) #[true, true, true, true, true, false, false, false, false] rfl rfl (take_ofW HT_.out HW_.out (by kernel_rfl)) (fun _ _ _ h => h) (Or.inl ⟨by rfl, ?_⟩) hHeld ?_ ?_
               rotate_left
               ·
                rintro w' ⟨s0, s1, s2⟩
                go_simp
                with_reducible rfl
               rotate_left
               ·
                simp only [Act.put, List.setIfInBounds_toArray, List.set_cons_zero, List.set_cons_succ, i64_w, i32_w]
                rfl
               refine take_ (i := 5) (N := some 48) (v := ?_) (a' := ?_) #[true, true, true, true, true, true, false, false, false] rfl rfl (take_ofW HT_.out HW_.out (by kernel_rfl)) (fun _ _ _ h => h) (Or.inl ⟨by rfl, ?_⟩) hHeld ?_ ?_
               rotate_left
               ·
                rintro w' ⟨s0, s1, s2⟩
                go_simp
                with_reducible rfl
               rotate_left
               ·
                simp only [Act.put, List.setIfInBounds_toArray, List.set_cons_zero, List.set_cons_succ, i64_w, i32_w]
                rfl
               refine one_ (i := 6) (N := some 49) #[true, true, true, true, true, true, true, false, false] rfl rfl (one_of HT_.out (by kernel_rfl)) (by decide) (fun K hK => ?_)
               refine goes_ Try.func66 (by kernel_rfl) rfl #[.slice A199_0 (rd_L3 l1 x11_3).length c199_0, .slice Ao22 x195001_2.length co22] (by rfl) rfl rfl (by (try simp only [List.map_toArray, List.map_cons, List.map_nil]); first | done | rfl | (simp only [List.length_drop, List.length_take]; rfl)) ?_
               with_reducible refine (mosaicref13_Rest.calls kj13 _ _ (rd_L3 l1 x11_3) _ _ x195001_2 t200 _ ?side1 ?side2 ?side3 ?side4 A19.out).mono ?_
               (case side1 => repeat (first | exact (Kd.C_below HR199_0.out HB.out) | (with_reducible refine Kd.C_alloc ?_ _) | (with_reducible refine Kd.C_drewN ?_ _) | (with_reducible refine Kd.C_drew ?_)))
               (case side2 => exact HC199_0.out)
               (case side3 => repeat (first | exact (Kd.R_reads' HO_195001.out).2.2 | (with_reducible refine Kd.C_alloc ?_ _) | (with_reducible refine Kd.C_drewN ?_ _) | (with_reducible refine Kd.C_drew ?_)))
               (case side4 => exact (Kd.R_reads' HO_195001.out).2.1)
               rintro e w23 ⟨v201, rfl, ho0, hb⟩
               refine ⟨_, rfl, ?_⟩
               have n0_ := Aside0.mk (Kd.R_below (by (with_reducible repeat (first | apply Kd.R_alloc | apply Kd.R_drewN | apply Kd.R_drew)); exact HO_195000.out) hb)
               have n1_ := Aside0.mk (Kd.R_elder' (by (with_reducible repeat (first | apply Kd.R_alloc | apply Kd.R_drewN | apply Kd.R_drew)); exact HO_195001.out) (Kd.R_base ho0) hb)
               have n2_ := Aside0.mk (Kd.R_lower (Kd.R_new' ho0 (Kd.R_lt (by (with_reducible repeat (first | apply Kd.R_alloc | apply Kd.R_drewN | apply Kd.R_drew)); exact HO_195001.out))) (below_size (by repeat (first | (with_reducible first | exact HB.out | apply below_alloc | apply pw_below_drewN | apply below_drew1 | refine below_set ?_ GE193.out | refine below_set ?_ GE194.out) | exact HB.out))))
               have n3_ := Aside0.mk (blk_below (g := gb193) (o := .cells #[.slice none 0 0, .slice none 0 0] 87 (0, 0)) (by (with_reducible repeat (first | refine blk_drewN ?_ _ | refine blk_drew ?_ | refine blk_alloc ?_ _)); exact BK193.out) hb)
               have n4_ := Aside0.mk (blk_below (g := gb194) (o := .cells #[u195000, .slice Ao22 x195001_2.length co22] 87 (0, 0)) (by (with_reducible repeat (first | refine blk_drewN ?_ _ | refine blk_drew ?_ | refine blk_alloc ?_ _)); exact BK194.out) hb)
               have n5_ := Aside0.mk (below_step (by repeat (first | (with_reducible first | exact HB.out | apply below_alloc | apply pw_below_drewN | apply below_drew1 | refine below_set ?_ GE193.out | refine below_set ?_ GE194.out) | exact HB.out)) hb)
               clear HO_195000
               clear HO_195001
               clear BK193
               clear BK194
               clear HB
               have HO_195000 := n0_
               have HO_195001 := n1_
               have HO202 := n2_
               have BK193 := n3_
               have BK194 := n4_
               have HB := n5_
               clear n0_ n1_ n2_ n3_ n4_ n5_
               (try clear hb)
               (try clear hb2)
               (try clear hk)
               (try clear hi)
               (try clear ho0)
               obtain ⟨Ao24, co24, eo24⟩ := Kd.R_slice HO202.out
               (first | subst eo24 | (injection eo24 with f1_ f2_ f3_; have f4_ := f1_.symm; have f5_ := f3_.symm; clear f1_ f2_ f3_; subst f4_; subst f5_))
               refine hK.out _ _ ⟨(blk_cell BK194.out 0).trans rfl, (blk_cell BK194.out 1).trans rfl, ((HB.out.cell (World.block_lt_of_cell? w _ hw199_0)).trans hw199_0)⟩ (fun hHeld => ?_)
               clear hK K
               refine norm_ (a' := ?_) ?_ ?_
               rotate_left
               ·
                show Act.put _ (some 49) _ = _
                simp only [Act.put, List.setIfInBounds_toArray, List.set_cons_zero, List.set_cons_succ, i64_w, i32_w]
                rfl
               refine pure_ (i := 7) (N := some 50) (v := ?_) (a' := ?_) #[true, true, true, true, true, true, true, true, false] rfl rfl (any_of HT_.out (by kernel_rfl)) (fun _ _ _ h => h) (Or.inl ⟨by rfl, ?_⟩) ?_ ?_
               rotate_left
               ·
                intro w'
                go_simp
                with_reducible rfl
               rotate_left
               ·
                simp only [Act.put, List.setIfInBounds_toArray, List.set_cons_zero, List.set_cons_succ, i64_w, i32_w]
                rfl
               refine pure_ (i := 8) (N := some 51) (v := ?_) (a' := ?_) #[true, true, true, true, true, true, true, true, true] rfl rfl (any_of HT_.out (by kernel_rfl)) (fun _ _ _ h => h) (Or.inl ⟨by rfl, ?_⟩) ?_ ?_
               rotate_left
               ·
                intro w'
                go_simp
                with_reducible rfl
               rotate_left
               ·
                simp only [Act.put, List.setIfInBounds_toArray, List.set_cons_zero, List.set_cons_succ, i64_w, i32_w]
                rfl
               refine done_ (done_of HT_.out (by kernel_rfl)) ?_
               try go_wp2
               go_roundg kj13
               case measure => have := HK1.out; have := HK2.out; have := HK3.out; have := HJ13.out; omega
               case rel => exact ⟨(x11_3), (wrap64 (x11_3 + 1)), (by first | rfl | (simp; done) | (simp [*]; done)), (by first | rfl | (simp; done) | (simp [*]; done)), H', ⟨by have := HK1.out; have := HK2.out; have := HK3.out; have := HJ13.out; omega⟩, ⟨by (with_reducible repeat (first | apply Kd.R_alloc | apply Kd.R_drewN | apply Kd.R_drew)); exact HO_195000.out⟩, ⟨by (with_reducible repeat (first | apply Kd.R_alloc | apply Kd.R_drewN | apply Kd.R_drew)); exact Kd.R_mono HO_195001.out (fun _ hk => trivial)⟩, ⟨by (with_reducible repeat (first | refine blk_drewN ?_ _ | refine blk_drew ?_ | refine blk_alloc ?_ _)); exact BK193.out⟩, ⟨by (with_reducible repeat (first | refine blk_drewN ?_ _ | refine blk_drew ?_ | refine blk_alloc ?_ _)); exact BK194.out⟩, ⟨by repeat (first | (with_reducible first | exact HB.out | apply below_alloc | apply pw_below_drewN | apply below_drew1 | refine below_set ?_ GE193.out | refine below_set ?_ GE194.out) | exact HB.out)⟩⟩
              ·
               rw [if_neg c20] at H
               have c20b0 : ((t200.length : Int) == 1) = false := beq_eq_false_iff_ne.mpr c20
               have c20b1 : ((t200.length : Int) != 1) = true := bne_iff_ne.mpr c20
               have H' := Aside0.mk H
               clear H
               try go_wp2
               have n0_ := Aside0.mk (Kd.R_drew HO_195000.out)
               have n1_ := Aside0.mk (Kd.R_drew HO_195001.out)
               have n2_ := Aside0.mk (blk_drew BK193.out)
               have n3_ := Aside0.mk (blk_drew BK194.out)
               have n4_ := Aside0.mk (below_drew1 HB.out)
               clear HO_195000
               clear HO_195001
               clear BK193
               clear BK194
               clear HB
               have HO_195000 := n0_
               have HO_195001 := n1_
               have BK193 := n2_
               have BK194 := n3_
               have HB := n4_
               clear n0_ n1_ n2_ n3_ n4_
               have p199 : 0 ≤ (x11_3 : Int) := of_decide_eq_true (by first | (with_reducible assumption) | assumption)
               have q199 : x11_3 < (l1.length : Int) := of_decide_eq_true (by first | (with_reducible assumption) | assumption)
               obtain ⟨ad199, A199_0, c199_0, e199, hx199_0, hl199_0, hi199_0⟩ := at_L3 HR1.out x11_3 p199 q199
               have hw199_0 := hx199_0
               cases e199
               replace hx199_0 := (HB.out.cell (World.block_lt_of_cell? w _ hx199_0)).trans hx199_0
               have HR199_0 := Aside0.mk hi199_0
               have HC199_0 := Aside0.mk hl199_0
               clear hi199_0 hl199_0
               replace p199 := eq_true p199
               replace q199 := eq_true q199
               obtain ⟨Ao26, co26, eo26⟩ := Kd.R_slice HO_195001.out
               (first | subst eo26 | (injection eo26 with f1_ f2_ f3_; have f4_ := f1_.symm; have f5_ := f3_.symm; clear f1_ f2_ f3_; subst f4_; subst f5_))
               refine start_ (n := 9) (S := fun w' => w'.cell? ⟨gb194, 0, none⟩ = some (u195000) ∧ w'.cell? ⟨gb194, 1, none⟩ = some (.slice Ao26 x195001_2.length co26) ∧ w'.cell? (ad199.add (x11_3).toNat) = some (.slice A199_0 (rd_L3 l1 x11_3).length c199_0)) (ds := []) #[false, false, false, false, false, false, false, false, false] (by kernel_rfl) rfl rfl ⟨(blk_cell BK194.out 0).trans rfl, (blk_cell BK194.out 1).trans rfl, ((HB.out.cell (World.block_lt_of_cell? w _ hw199_0)).trans hw199_0)⟩ (fun hHeld => ?_); refine with_tabW mosaicref13_Peel.tab13 mosaicref13_Peel.bits13 (fun HT_ HW_ => ?_)
               generalize wc.drew = w25 at HO_195000 HO_195001 BK193 BK194 HB HR199_0 hx199_0 hHeld ⊢
               refine pure_ (i := 0) (N := some 43) (v := ?_) (a' := ?_) #[true, false, false, false, false, false, false, false, false] rfl rfl (any_of HT_.out (by kernel_rfl)) (fun _ _ _ h => h) (Or.inl ⟨by rfl, ?_⟩) ?_ ?_
               rotate_left
               ·
                intro w'
                go_simp
                with_reducible rfl
               rotate_left
               ·
                simp only [Act.put, List.setIfInBounds_toArray, List.set_cons_zero, List.set_cons_succ, i64_w, i32_w]
                rfl
               refine pure_ (i := 1) (N := some 44) (v := ?_) (a' := ?_) #[true, true, false, false, false, false, false, false, false] rfl rfl (any_of HT_.out (by kernel_rfl)) (fun _ _ _ h => h) (Or.inl ⟨by rfl, ?_⟩) ?_ ?_
               rotate_left
               ·
                intro w'
                go_simp
                with_reducible rfl
               rotate_left
               ·
                simp only [Act.put, List.setIfInBounds_toArray, List.set_cons_zero, List.set_cons_succ, i64_w, i32_w]
                rfl
               refine pure_ (i := 2) (N := some 45) (v := ?_) (a' := ?_) #[true, true, true, false, false, false, false, false, false] rfl rfl (any_of HT_.out (by kernel_rfl)) (fun _ _ _ h => h) (Or.inl ⟨by rfl, ?_⟩) ?_ ?_
               rotate_left
               ·
                intro w'
                go_simp
                with_reducible rfl
               rotate_left
               ·
                simp only [Act.put, List.setIfInBounds_toArray, List.set_cons_zero, List.set_cons_succ, i64_w, i32_w]
                rfl
               refine pure_ (i := 4) (N := some 47) (v := ?_) (a' := ?_) #[true, true, true, false, true, false, false, false, false] rfl rfl (any_of HT_.out (by kernel_rfl)) (fun _ _ _ h => h) (Or.inl ⟨by rfl, ?_⟩) ?_ ?_
               rotate_left
               ·
                intro w'
                go_simp
                with_reducible rfl
               rotate_left
               ·
                simp only [Act.put, List.setIfInBounds_toArray, List.set_cons_zero, List.set_cons_succ, i64_w, i32_w]
                rfl
               refine take_ (i := 3) (N := some 46) (v := ?_) (a' := ?_) #[true, true, true, true, true, false, false, false, false] rfl rfl (take_ofW HT_.out HW_.out (by kernel_rfl)) (fun _ _ _ h => h) (Or.inl ⟨by rfl, ?_⟩) hHeld ?_ ?_
               rotate_left
               ·
                rintro w' ⟨s0, s1, s2⟩
                go_simp
                with_reducible rfl
               rotate_left
               ·
                simp only [Act.put, List.setIfInBounds_toArray, List.set_cons_zero, List.set_cons_succ, i64_w, i32_w]
                rfl
               refine take_ (i := 5) (N := some 48) (v := ?_) (a' := ?_) #[true, true, true, true, true, true, false, false, false] rfl rfl (take_ofW HT_.out HW_.out (by kernel_rfl)) (fun _ _ _ h => h) (Or.inl ⟨by rfl, ?_⟩) hHeld ?_ ?_
               rotate_left
               ·
                rintro w' ⟨s0, s1, s2⟩
                go_simp
                with_reducible rfl
               rotate_left
               ·
                simp only [Act.put, List.setIfInBounds_toArray, List.set_cons_zero, List.set_cons_succ, i64_w, i32_w]
                rfl
               refine one_ (i := 6) (N := some 49) #[true, true, true, true, true, true, true, false, false] rfl rfl (one_of HT_.out (by kernel_rfl)) (by decide) (fun K hK => ?_)
               refine goes_ Try.func66 (by kernel_rfl) rfl #[.slice A199_0 (rd_L3 l1 x11_3).length c199_0, .slice Ao26 x195001_2.length co26] (by rfl) rfl rfl (by (try simp only [List.map_toArray, List.map_cons, List.map_nil]); first | done | rfl | (simp only [List.length_drop, List.length_take]; rfl)) ?_
               with_reducible refine (mosaicref13_Rest.calls kj13 _ _ (rd_L3 l1 x11_3) _ _ x195001_2 t200 _ ?side1 ?side2 ?side3 ?side4 A19.out).mono ?_
               (case side1 => repeat (first | exact (Kd.C_below HR199_0.out HB.out) | (with_reducible refine Kd.C_alloc ?_ _) | (with_reducible refine Kd.C_drewN ?_ _) | (with_reducible refine Kd.C_drew ?_)))
               (case side2 => exact HC199_0.out)
               (case side3 => repeat (first | exact (Kd.R_reads' HO_195001.out).2.2 | (with_reducible refine Kd.C_alloc ?_ _) | (with_reducible refine Kd.C_drewN ?_ _) | (with_reducible refine Kd.C_drew ?_)))
               (case side4 => exact (Kd.R_reads' HO_195001.out).2.1)
               rintro e w27 ⟨v201, rfl, ho0, hb⟩
               refine ⟨_, rfl, ?_⟩
               have n0_ := Aside0.mk (Kd.R_below (by (with_reducible repeat (first | apply Kd.R_alloc | apply Kd.R_drewN | apply Kd.R_drew)); exact HO_195000.out) hb)
               have n1_ := Aside0.mk (Kd.R_elder' (by (with_reducible repeat (first | apply Kd.R_alloc | apply Kd.R_drewN | apply Kd.R_drew)); exact HO_195001.out) (Kd.R_base ho0) hb)
               have n2_ := Aside0.mk (Kd.R_lower (Kd.R_new' ho0 (Kd.R_lt (by (with_reducible repeat (first | apply Kd.R_alloc | apply Kd.R_drewN | apply Kd.R_drew)); exact HO_195001.out))) (below_size (by repeat (first | (with_reducible first | exact HB.out | apply below_alloc | apply pw_below_drewN | apply below_drew1 | refine below_set ?_ GE193.out | refine below_set ?_ GE194.out) | exact HB.out))))
               have n3_ := Aside0.mk (blk_below (g := gb193) (o := .cells #[.slice none 0 0, .slice none 0 0] 87 (0, 0)) (by (with_reducible repeat (first | refine blk_drewN ?_ _ | refine blk_drew ?_ | refine blk_alloc ?_ _)); exact BK193.out) hb)
               have n4_ := Aside0.mk (blk_below (g := gb194) (o := .cells #[u195000, .slice Ao26 x195001_2.length co26] 87 (0, 0)) (by (with_reducible repeat (first | refine blk_drewN ?_ _ | refine blk_drew ?_ | refine blk_alloc ?_ _)); exact BK194.out) hb)
               have n5_ := Aside0.mk (below_step (by repeat (first | (with_reducible first | exact HB.out | apply below_alloc | apply pw_below_drewN | apply below_drew1 | refine below_set ?_ GE193.out | refine below_set ?_ GE194.out) | exact HB.out)) hb)
               clear HO_195000
               clear HO_195001
               clear BK193
               clear BK194
               clear HB
               have HO_195000 := n0_
               have HO_195001 := n1_
               have HO202 := n2_
               have BK193 := n3_
               have BK194 := n4_
               have HB := n5_
               clear n0_ n1_ n2_ n3_ n4_ n5_
               (try clear hb)
               (try clear hb2)
               (try clear hk)
               (try clear hi)
               (try clear ho0)
               obtain ⟨Ao28, co28, eo28⟩ := Kd.R_slice HO202.out
               (first | subst eo28 | (injection eo28 with f1_ f2_ f3_; have f4_ := f1_.symm; have f5_ := f3_.symm; clear f1_ f2_ f3_; subst f4_; subst f5_))
               refine hK.out _ _ ⟨(blk_cell BK194.out 0).trans rfl, (blk_cell BK194.out 1).trans rfl, ((HB.out.cell (World.block_lt_of_cell? w _ hw199_0)).trans hw199_0)⟩ (fun hHeld => ?_)
               clear hK K
               refine norm_ (a' := ?_) ?_ ?_
               rotate_left
               ·
                show Act.put _ (some 49) _ = _
                simp only [Act.put, List.setIfInBounds_toArray, List.set_cons_zero, List.set_cons_succ, i64_w, i32_w]
                rfl
               refine pure_ (i := 7) (N := some 50) (v := ?_) (a' := ?_) #[true, true, true, true, true, true, true, true, false] rfl rfl (any_of HT_.out (by kernel_rfl)) (fun _ _ _ h => h) (Or.inl ⟨by rfl, ?_⟩) ?_ ?_
               rotate_left
               ·
                intro w'
                go_simp
                with_reducible rfl
               rotate_left
               ·
                simp only [Act.put, List.setIfInBounds_toArray, List.set_cons_zero, List.set_cons_succ, i64_w, i32_w]
                rfl
               refine pure_ (i := 8) (N := some 51) (v := ?_) (a' := ?_) #[true, true, true, true, true, true, true, true, true] rfl rfl (any_of HT_.out (by kernel_rfl)) (fun _ _ _ h => h) (Or.inl ⟨by rfl, ?_⟩) ?_ ?_
               rotate_left
               ·
                intro w'
                go_simp
                with_reducible rfl
               rotate_left
               ·
                simp only [Act.put, List.setIfInBounds_toArray, List.set_cons_zero, List.set_cons_succ, i64_w, i32_w]
                rfl
               refine done_ (done_of HT_.out (by kernel_rfl)) ?_
               try go_wp2
               go_roundg kj13
               case measure => have := HK1.out; have := HK2.out; have := HK3.out; have := HJ13.out; omega
               case rel => exact ⟨(x10_3), (wrap64 (x11_3 + 1)), (by first | rfl | (simp; done) | (simp [*]; done)), (by first | rfl | (simp; done) | (simp [*]; done)), H', ⟨by have := HK1.out; have := HK2.out; have := HK3.out; have := HJ13.out; omega⟩, ⟨by (with_reducible repeat (first | apply Kd.R_alloc | apply Kd.R_drewN | apply Kd.R_drew)); exact HO_195000.out⟩, ⟨by (with_reducible repeat (first | apply Kd.R_alloc | apply Kd.R_drewN | apply Kd.R_drew)); exact Kd.R_mono HO_195001.out (fun _ hk => trivial)⟩, ⟨by (with_reducible repeat (first | refine blk_drewN ?_ _ | refine blk_drew ?_ | refine blk_alloc ?_ _)); exact BK193.out⟩, ⟨by (with_reducible repeat (first | refine blk_drewN ?_ _ | refine blk_drew ?_ | refine blk_alloc ?_ _)); exact BK194.out⟩, ⟨by repeat (first | (with_reducible first | exact HB.out | apply below_alloc | apply pw_below_drewN | apply below_drew1 | refine below_set ?_ GE193.out | refine below_set ?_ GE194.out) | exact HB.out)⟩⟩
             ·
              rw [if_neg c18] at H
              exact absurd H (by simp)
            ·
             rw [if_neg c17] at H
             exact absurd H (by simp)
           ·
            replace c16 := Bool.eq_false_iff.mpr c16
            subst c16
            have H1 : (if x10_3 < 0 then (some (x195000_2, x195001_2)) else (if 0 ≤ x10_3 then (if x10_3 < (l1.length : Int) then ((mosaicref13_Rest.f kj13 (rd_L3 l1 x10_3) x195001_2).bind fun t204 => (if 0 < (t204.length : Int) then (if x195000_2.length < 8796093022208 then (if x195001_2.length < 17592186044416 then (mosaicref13_Peel.l1 kj13 a0 l1 (wrap64 (x9_2 + 1)) (x195000_2 ++ [(⟨x10_3, rd t204 0⟩ : S39)]) (x195001_2 ++ [rd t204 0])) else (none)) else (none)) else (none))) else (none)) else (none))) = some (r1, r2) := by rw [if_neg (show ¬ (false = true) by decide)] at H; exact H
            clear H
            have H := H1
            clear H1
            by_cases c29 : x10_3 < 0
            ·
             rw [if_pos c29] at H
             have c29b0 : decide (x10_3 < 0) = true := decide_eq_true c29
             clear c29
             simp only [Option.some.injEq, Prod.mk.injEq] at H
             obtain ⟨rfl, rfl⟩ := H
             have hnb30 := NB194_193.out
             have hnc30 := NB193_194.out
             have hcz31_0 : wc.cell? ⟨gb194, 0, none⟩ = some (u195000) := (blk_cell BK194.out 0).trans rfl
             have hcz31_1 : wc.cell? ⟨gb194, 1, none⟩ = some (u195001) := (blk_cell BK194.out 1).trans rfl
             have hfz31_0 := blk_frozen BK194.out 0
             have hfz31_1 := blk_frozen BK194.out 1
             obtain ⟨Ao32, co32, eo32⟩ := Kd.R_slice HO_195000.out
             subst eo32
             have hcz33_0 : wc.cell? ⟨gb193, 0, none⟩ = some (.slice none 0 0) := (blk_cell BK193.out 0).trans rfl
             have hcz33_1 : wc.cell? ⟨gb193, 1, none⟩ = some (.slice none 0 0) := (blk_cell BK193.out 1).trans rfl
             have hfz33_0 := blk_frozen BK193.out 0
             have hfz33_1 := blk_frozen BK193.out 1
             obtain ⟨Ao34, co34, eo34⟩ := Kd.R_slice HO_195001.out
             subst eo34
             go_wp2
             refine bodyPost_ret (results_cell_row rfl _ _ gb193 87 #[.slice Ao32 x195000_2.length co32, .slice Ao34 x195001_2.length co34] (0, 0) _ rfl (by (with_reducible repeat (first | refine blk_drewN ?_ _ | refine blk_drew ?_ | refine blk_alloc ?_ _)); refine blk_put (cs := #[.slice Ao32 x195000_2.length co32, .slice none 0 0]) ?_ 1 _ rfl; (with_reducible repeat (first | refine blk_drewN ?_ _ | refine blk_drew ?_ | refine blk_alloc ?_ _)); refine blk_put (cs := #[.slice none 0 0, .slice none 0 0]) ?_ 0 _ rfl; (with_reducible repeat (first | refine blk_drewN ?_ _ | refine blk_drew ?_ | refine blk_alloc ?_ _)); exact BK193.out) Try.underlying87 rfl (by kernel_rfl)) rfl ?_
             exact ⟨_, _, by first | rfl | (simp [errW_none, errW_some] <;> rfl) | (simp [*, errW_none, errW_some] <;> rfl), by (with_reducible repeat (first | apply Kd.R_alloc | apply Kd.R_drewN | apply Kd.R_drew)); exact Kd.R_mono (Kd.R_far (p := ⟨gb193, 1, none⟩) (Kd.R_far (p := ⟨gb193, 0, none⟩) (Kd.R_types HO_195000.out BK193.out (by decide)) (fun _ hk => hk.2) (.slice Ao32 x195000_2.length co32)) (fun _ hk => hk.2) (.slice Ao34 x195001_2.length co34)) (fun _ hk => trivial), by (with_reducible repeat (first | apply Kd.R_alloc | apply Kd.R_drewN | apply Kd.R_drew)); exact Kd.R_mono (Kd.R_far (p := ⟨gb193, 1, none⟩) (Kd.R_far (p := ⟨gb193, 0, none⟩) (Kd.R_types HO_195001.out BK193.out (by decide)) (fun _ hk => hk.2) (.slice Ao32 x195000_2.length co32)) (fun _ hk => hk.2) (.slice Ao34 x195001_2.length co34)) (fun _ hk => trivial), by repeat (first | (with_reducible first | exact HB.out | apply below_alloc | apply pw_below_drewN | apply below_drew1 | refine below_set ?_ GE193.out | refine below_set ?_ GE194.out) | exact HB.out)⟩
            ·
             rw [if_neg c29] at H
             have c29b0 : decide (x10_3 < 0) = false := decide_eq_false c29
             clear c29
             by_cases c35 : 0 ≤ x10_3
             ·
              rw [if_pos c35] at H
              have c35b0 : decide (0 ≤ x10_3) = true := decide_eq_true c35
              clear c35
              by_cases c36 : x10_3 < (l1.length : Int)
              ·
               rw [if_pos c36] at H
               have c36b0 : decide (x10_3 < (l1.length : Int)) = true := decide_eq_true c36
               clear c36
               replace H := Option.bind_eq_some_iff.mp H
               obtain ⟨t204, A370, H⟩ := H
               replace H : (if 0 < (t204.length : Int) then (if x195000_2.length < 8796093022208 then (if x195001_2.length < 17592186044416 then (mosaicref13_Peel.l1 kj13 a0 l1 (wrap64 (x9_2 + 1)) (x195000_2 ++ [(⟨x10_3, rd t204 0⟩ : S39)]) (x195001_2 ++ [rd t204 0])) else (none)) else (none)) else (none)) = some (r1, r2) := H
               have A37 := Aside0.mk A370
               clear A370
               by_cases c38 : 0 < (t204.length : Int)
               ·
                rw [if_pos c38] at H
                have c38b0 : decide (0 < (t204.length : Int)) = true := decide_eq_true c38
                have c38b1 : decide (0 < t204.length) = true := decide_eq_true (by omega)
                clear c38
                by_cases c39 : x195000_2.length < 8796093022208
                ·
                 rw [if_pos c39] at H
                 have LMc39 := Aside0.mk c39
                 clear c39
                 obtain ⟨y208, hy208⟩ : ∃ y_ : List (S39), y_ = (x195000_2 ++ [(⟨x10_3, rd t204 0⟩ : S39)]) := ⟨_, rfl⟩
                 replace H : (if x195001_2.length < 17592186044416 then (mosaicref13_Peel.l1 kj13 a0 l1 (wrap64 (x9_2 + 1)) y208 (x195001_2 ++ [rd t204 0])) else (none)) = some (r1, r2) := by first | (rw [hy208]; with_reducible exact H) | (have H2_ := (Option.bind_some _ _).symm.trans H; rw [hy208]; with_reducible exact H2_) | (have H2_ := (Option.bind_some _ _).symm.trans H; with_reducible exact H2_) | with_reducible exact H | (rw [hy208]; exact H) | exact H
                 have Ny208 := Aside0.mk hy208
                 clear hy208
                 by_cases c40 : x195001_2.length < 17592186044416
                 ·
                  rw [if_pos c40] at H
                  have LMc40 := Aside0.mk c40
                  clear c40
                  obtain ⟨y211, hy211⟩ : ∃ y_ : List Int, y_ = (x195001_2 ++ [rd t204 0]) := ⟨_, rfl⟩
                  replace H : (mosaicref13_Peel.l1 kj13 a0 l1 (wrap64 (x9_2 + 1)) y208 y211) = some (r1, r2) := by first | (rw [hy211]; with_reducible exact H) | (have H2_ := (Option.bind_some _ _).symm.trans H; rw [hy211]; with_reducible exact H2_) | (have H2_ := (Option.bind_some _ _).symm.trans H; with_reducible exact H2_) | with_reducible exact H | (rw [hy211]; exact H) | exact H
                  have Ny211 := Aside0.mk hy211
                  clear hy211
                  have H' := Aside0.mk H
                  clear H
                  try go_wp2
                  have n0_ := Aside0.mk (Kd.R_drew HO_195000.out)
                  have n1_ := Aside0.mk (Kd.R_drew HO_195001.out)
                  have n2_ := Aside0.mk (blk_drew BK193.out)
                  have n3_ := Aside0.mk (blk_drew BK194.out)
                  have n4_ := Aside0.mk (below_drew1 HB.out)
                  clear HO_195000
                  clear HO_195001
                  clear BK193
                  clear BK194
                  clear HB
                  have HO_195000 := n0_
                  have HO_195001 := n1_
                  have BK193 := n2_
                  have BK194 := n3_
                  have HB := n4_
                  clear n0_ n1_ n2_ n3_ n4_
                  have p203 : 0 ≤ (x10_3 : Int) := of_decide_eq_true (by first | (with_reducible assumption) | assumption)
                  have q203 : x10_3 < (l1.length : Int) := of_decide_eq_true (by first | (with_reducible assumption) | assumption)
                  obtain ⟨ad203, A203_0, c203_0, e203, hx203_0, hl203_0, hi203_0⟩ := at_L3 HR1.out x10_3 p203 q203
                  have hw203_0 := hx203_0
                  cases e203
                  replace hx203_0 := (HB.out.cell (World.block_lt_of_cell? w _ hx203_0)).trans hx203_0
                  have HR203_0 := Aside0.mk hi203_0
                  have HC203_0 := Aside0.mk hl203_0
                  clear hi203_0 hl203_0
                  replace p203 := eq_true p203
                  replace q203 := eq_true q203
                  obtain ⟨Ao42, co42, eo42⟩ := Kd.R_slice HO_195001.out
                  (first | subst eo42 | (injection eo42 with f1_ f2_ f3_; have f4_ := f1_.symm; have f5_ := f3_.symm; clear f1_ f2_ f3_; subst f4_; subst f5_))
                  refine start_ (n := 10) (S := fun w' => w'.cell? ⟨gb194, 0, none⟩ = some (u195000) ∧ w'.cell? ⟨gb194, 1, none⟩ = some (.slice Ao42 x195001_2.length co42) ∧ w'.cell? (ad203.add (x10_3).toNat) = some (.slice A203_0 (rd_L3 l1 x10_3).length c203_0)) (ds := []) #[false, false, false, false, false, false, false, false, false, false] (by kernel_rfl) rfl rfl ⟨(blk_cell BK194.out 0).trans rfl, (blk_cell BK194.out 1).trans rfl, ((HB.out.cell (World.block_lt_of_cell? w _ hw203_0)).trans hw203_0)⟩ (fun hHeld => ?_); refine with_tabW mosaicref13_Peel.tab17 mosaicref13_Peel.bits17 (fun HT_ HW_ => ?_)
                  generalize wc.drew = w41 at HO_195000 HO_195001 BK193 BK194 HB HR203_0 hx203_0 hHeld ⊢
                  refine pure_ (i := 0) (N := some 56) (v := ?_) (a' := ?_) #[true, false, false, false, false, false, false, false, false, false] rfl rfl (any_of HT_.out (by kernel_rfl)) (fun _ _ _ h => h) (Or.inl ⟨by rfl, ?_⟩) ?_ ?_
                  rotate_left
                  ·
                   intro w'
                   go_simp
                   with_reducible rfl
                  rotate_left
                  ·
                   simp only [Act.put, List.setIfInBounds_toArray, List.set_cons_zero, List.set_cons_succ, i64_w, i32_w]
                   rfl
                  refine pure_ (i := 1) (N := some 57) (v := ?_) (a' := ?_) #[true, true, false, false, false, false, false, false, false, false] rfl rfl (any_of HT_.out (by kernel_rfl)) (fun _ _ _ h => h) (Or.inl ⟨by rfl, ?_⟩) ?_ ?_
                  rotate_left
                  ·
                   intro w'
                   go_simp
                   with_reducible rfl
                  rotate_left
                  ·
                   simp only [Act.put, List.setIfInBounds_toArray, List.set_cons_zero, List.set_cons_succ, i64_w, i32_w]
                   rfl
                  refine pure_ (i := 2) (N := some 58) (v := ?_) (a' := ?_) #[true, true, true, false, false, false, false, false, false, false] rfl rfl (any_of HT_.out (by kernel_rfl)) (fun _ _ _ h => h) (Or.inl ⟨by rfl, ?_⟩) ?_ ?_
                  rotate_left
                  ·
                   intro w'
                   go_simp
                   with_reducible rfl
                  rotate_left
                  ·
                   simp only [Act.put, List.setIfInBounds_toArray, List.set_cons_zero, List.set_cons_succ, i64_w, i32_w]
                   rfl
                  refine pure_ (i := 4) (N := some 60) (v := ?_) (a' := ?_) #[true, true, true, false, true, false, false, false, false, false] rfl rfl (any_of HT_.out (by kernel_rfl)) (fun _ _ _ h => h) (Or.inl ⟨by rfl, ?_⟩) ?_ ?_
                  rotate_left
                  ·
                   intro w'
                   go_simp
                   with_reducible rfl
                  rotate_left
                  ·
                   simp only [Act.put, List.setIfInBounds_toArray, List.set_cons_zero, List.set_cons_succ, i64_w, i32_w]
                   rfl
                  refine take_ (i := 3) (N := some 59) (v := ?_) (a' := ?_) #[true, true, true, true, true, false, false, false, false, false] rfl rfl (take_ofW HT_.out HW_.out (by kernel_rfl)) (fun _ _ _ h => h) (Or.inl ⟨by rfl, ?_⟩) hHeld ?_ ?_
                  rotate_left
                  ·
                   rintro w' ⟨s0, s1, s2⟩
                   go_simp
                   with_reducible rfl
                  rotate_left
                  ·
                   simp only [Act.put, List.setIfInBounds_toArray, List.set_cons_zero, List.set_cons_succ, i64_w, i32_w]
                   rfl
                  refine take_ (i := 5) (N := some 61) (v := ?_) (a' := ?_) #[true, true, true, true, true, true, false, false, false, false] rfl rfl (take_ofW HT_.out HW_.out (by kernel_rfl)) (fun _ _ _ h => h) (Or.inl ⟨by rfl, ?_⟩) hHeld ?_ ?_
                  rotate_left
                  ·
                   rintro w' ⟨s0, s1, s2⟩
                   go_simp
                   with_reducible rfl
                  rotate_left
                  ·
                   simp only [Act.put, List.setIfInBounds_toArray, List.set_cons_zero, List.set_cons_succ, i64_w, i32_w]
                   rfl
                  refine one_ (i := 6) (N := some 62) #[true, true, true, true, true, true, true, false, false, false] rfl rfl (one_of HT_.out (by kernel_rfl)) (by decide) (fun K hK => ?_)
                  refine goes_ Try.func66 (by kernel_rfl) rfl #[.slice A203_0 (rd_L3 l1 x10_3).length c203_0, .slice Ao42 x195001_2.length co42] (by rfl) rfl rfl (by (try simp only [List.map_toArray, List.map_cons, List.map_nil]); first | done | rfl | (simp only [List.length_drop, List.length_take]; rfl)) ?_
                  with_reducible refine (mosaicref13_Rest.calls kj13 _ _ (rd_L3 l1 x10_3) _ _ x195001_2 t204 _ ?side1 ?side2 ?side3 ?side4 A37.out).mono ?_
                  (case side1 => repeat (first | exact (Kd.C_below HR203_0.out HB.out) | (with_reducible refine Kd.C_alloc ?_ _) | (with_reducible refine Kd.C_drewN ?_ _) | (with_reducible refine Kd.C_drew ?_)))
                  (case side2 => exact HC203_0.out)
                  (case side3 => repeat (first | exact (Kd.R_reads' HO_195001.out).2.2 | (with_reducible refine Kd.C_alloc ?_ _) | (with_reducible refine Kd.C_drewN ?_ _) | (with_reducible refine Kd.C_drew ?_)))
                  (case side4 => exact (Kd.R_reads' HO_195001.out).2.1)
                  rintro e w43 ⟨v205, rfl, ho0, hb⟩
                  refine ⟨_, rfl, ?_⟩
                  have n0_ := Aside0.mk (Kd.R_below (by (with_reducible repeat (first | apply Kd.R_alloc | apply Kd.R_drewN | apply Kd.R_drew)); exact HO_195000.out) hb)
                  have n1_ := Aside0.mk (Kd.R_elder' (by (with_reducible repeat (first | apply Kd.R_alloc | apply Kd.R_drewN | apply Kd.R_drew)); exact HO_195001.out) (Kd.R_base ho0) hb)
                  have n2_ := Aside0.mk (Kd.R_lower (Kd.R_new' ho0 (Kd.R_lt (by (with_reducible repeat (first | apply Kd.R_alloc | apply Kd.R_drewN | apply Kd.R_drew)); exact HO_195001.out))) (below_size (by repeat (first | (with_reducible first | exact HB.out | apply below_alloc | apply pw_below_drewN | apply below_drew1 | refine below_set ?_ GE193.out | refine below_set ?_ GE194.out) | exact HB.out))))
                  have n3_ := Aside0.mk (blk_below (g := gb193) (o := .cells #[.slice none 0 0, .slice none 0 0] 87 (0, 0)) (by (with_reducible repeat (first | refine blk_drewN ?_ _ | refine blk_drew ?_ | refine blk_alloc ?_ _)); exact BK193.out) hb)
                  have n4_ := Aside0.mk (blk_below (g := gb194) (o := .cells #[u195000, .slice Ao42 x195001_2.length co42] 87 (0, 0)) (by (with_reducible repeat (first | refine blk_drewN ?_ _ | refine blk_drew ?_ | refine blk_alloc ?_ _)); exact BK194.out) hb)
                  have n5_ := Aside0.mk (below_step (by repeat (first | (with_reducible first | exact HB.out | apply below_alloc | apply pw_below_drewN | apply below_drew1 | refine below_set ?_ GE193.out | refine below_set ?_ GE194.out) | exact HB.out)) hb)
                  clear HO_195000
                  clear HO_195001
                  clear BK193
                  clear BK194
                  clear HB
                  have HO_195000 := n0_
                  have HO_195001 := n1_
                  have HO206 := n2_
                  have BK193 := n3_
                  have BK194 := n4_
                  have HB := n5_
                  clear n0_ n1_ n2_ n3_ n4_ n5_
                  (try clear hb)
                  (try clear hb2)
                  (try clear hk)
                  (try clear hi)
                  (try clear ho0)
                  obtain ⟨Ao44, co44, eo44⟩ := Kd.R_slice HO206.out
                  (first | subst eo44 | (injection eo44 with f1_ f2_ f3_; have f4_ := f1_.symm; have f5_ := f3_.symm; clear f1_ f2_ f3_; subst f4_; subst f5_))
                  have p207 : 0 ≤ (0 : Int) := (by omega)
                  have q207 : 0 < (t204.length : Int) := of_decide_eq_true (by first | (with_reducible assumption) | assumption)
                  obtain ⟨ad207, e207, hx207_0⟩ := Kd.at_int (Kd.R_reads' HO206.out).2.2 0 p207 q207
                  cases e207
                  have qi207 : (0 < t204.length) = True := eq_true (by omega)
                  (try rw [show ((0 : Int)).toNat = 0 from rfl] at hx207_0)
                  (try rw [Addr.add_zero'] at hx207_0)
                  replace p207 := eq_true p207
                  replace q207 := eq_true q207
                  refine hK.out _ _ ⟨(blk_cell BK194.out 0).trans rfl, (blk_cell BK194.out 1).trans rfl, ((HB.out.cell (World.block_lt_of_cell? w _ hw203_0)).trans hw203_0)⟩ (fun hHeld => ?_)
                  clear hK K
                  refine norm_ (a' := ?_) ?_ ?_
                  rotate_left
                  ·
                   show Act.put _ (some 62) _ = _
                   simp only [Act.put, List.setIfInBounds_toArray, List.set_cons_zero, List.set_cons_succ, i64_w, i32_w]
                   rfl
                  refine pure_ (i := 7) (N := some 63) (v := ?_) (a' := ?_) #[true, true, true, true, true, true, true, true, false, false] rfl rfl (any_of HT_.out (by kernel_rfl)) (fun _ _ _ h => h) (Or.inl ⟨by rfl, ?_⟩) ?_ ?_
                  rotate_left
                  ·
                   intro w'
                   go_simp
                   with_reducible rfl
                  rotate_left
                  ·
                   simp only [Act.put, List.setIfInBounds_toArray, List.set_cons_zero, List.set_cons_succ, i64_w, i32_w]
                   rfl
                  refine one_ (i := 8) (N := some 64) #[true, true, true, true, true, true, true, true, true, false] rfl rfl (one_of HT_.out (by kernel_rfl)) (by decide) (fun K hK => ?_)
                  refine val_ (.int .i64 (rd t204 0)) rfl rfl ?_ ?_
                  ·
                   first | (go_simp; done) | (go_simp; with_reducible rfl)
                  refine hK.out _ _ hHeld (fun hHeld => ?_)
                  clear hK K
                  refine norm_ (a' := ?_) ?_ ?_
                  rotate_left
                  ·
                   show Act.put _ (some 64) _ = _
                   simp only [Act.put, List.setIfInBounds_toArray, List.set_cons_zero, List.set_cons_succ, i64_w, i32_w]
                   rfl
                  refine pure_ (i := 9) (N := some 12) (v := ?_) (a' := ?_) #[true, true, true, true, true, true, true, true, true, true] rfl rfl (any_of HT_.out (by kernel_rfl)) (fun _ _ _ h => h) (Or.inl ⟨by rfl, ?_⟩) ?_ ?_
                  rotate_left
                  ·
                   intro w'
                   go_simp
                   with_reducible rfl
                  rotate_left
                  ·
                   simp only [Act.put, List.setIfInBounds_toArray, List.set_cons_zero, List.set_cons_succ, i64_w, i32_w]
                   rfl
                  refine done_ (done_of HT_.out (by kernel_rfl)) ?_
                  have hnb45 := NB194_193.out
                  have hnc45 := NB193_194.out
                  have hcz46_0 : w43.cell? ⟨gb194, 0, none⟩ = some (u195000) := (blk_cell BK194.out 0).trans rfl
                  have hcz46_1 : w43.cell? ⟨gb194, 1, none⟩ = some (.slice Ao42 x195001_2.length co42) := (blk_cell BK194.out 1).trans rfl
                  have hfz46_0 := blk_frozen BK194.out 0
                  have hfz46_1 := blk_frozen BK194.out 1
                  try go_wp2_with (first | ((with_reducible refine gate_builtin (b := .append) (xs := #[.tmp 66, .tmp 70]) rfl ?_); at_builtin; refine Kd.R_append k39 (w0 := w) w.heap.size rfl (.tmp 66) (.tmp 70) 34 39 (.agg #[(.int .i64 0), (.int .i64 0)]) 16 rfl Try.underlying34 info39 rfl (by decide) (by omega) u195000 x195000_2 (⟨x10_3, rd t204 0⟩ : S39) [.int .i64 x10_3, .int .i64 (rd t204 0)] (fun _ => True) (fun _ => False) rfl rfl ?aP (fun _ hk => hk.elim) ?aF ?aO ?aB ?aS ?aL ?_; (case aP => exact k39_mkM _ _ _ (⟨x10_3, rd t204 0⟩ : S39)); (case aB => exact (by repeat (first | (with_reducible first | exact HB.out | apply below_alloc | apply pw_below_drewN | apply below_drew1 | refine below_set ?_ GE193.out | refine below_set ?_ GE194.out) | exact HB.out))); (case aF => exact (fun _ _ => trivial)); (case aO => exact (by (with_reducible repeat (first | apply Kd.R_alloc | apply Kd.R_drewN | apply Kd.R_drew)); exact HO_195000.out)); (case aS => exact (below_size (by repeat (first | (with_reducible first | exact HB.out | apply below_alloc | apply pw_below_drewN | apply below_drew1 | refine below_set ?_ GE193.out | refine below_set ?_ GE194.out) | exact HB.out)))); (case aL => have := LMc39.out; omega); intro v209 w47 ho hb hg hat; rw [← Ny208.out] at ho; have n0_ := Aside0.mk (Kd.R_over' (by (with_reducible repeat (first | apply Kd.R_alloc | apply Kd.R_drewN | apply Kd.R_drew)); exact HO_195001.out) (Kd.R_typed (by (with_reducible repeat (first | apply Kd.R_alloc | apply Kd.R_drewN | apply Kd.R_drew)); exact HO_195000.out)) (by decide) hg); have n1_ := Aside0.mk (blk_grown (g := gb193) (o := .cells #[.slice none 0 0, .slice none 0 0] 87 (0, 0)) (by (with_reducible repeat (first | refine blk_drewN ?_ _ | refine blk_drew ?_ | refine blk_alloc ?_ _)); exact BK193.out) hg (Kd.R_ne HO_195000.out BK193.out (by decide))); have n2_ := Aside0.mk (blk_grown (g := gb194) (o := .cells #[u195000, .slice Ao42 x195001_2.length co42] 87 (0, 0)) (by (with_reducible repeat (first | refine blk_drewN ?_ _ | refine blk_drew ?_ | refine blk_alloc ?_ _)); exact BK194.out) hg (Kd.R_ne HO_195000.out BK194.out (by decide))); have n3_ := Aside0.mk (Kd.R_over' (by (with_reducible repeat (first | apply Kd.R_alloc | apply Kd.R_drewN | apply Kd.R_drew)); exact HO206.out) (Kd.R_typed (by (with_reducible repeat (first | apply Kd.R_alloc | apply Kd.R_drewN | apply Kd.R_drew)); exact HO_195000.out)) (by decide) hg); have n4_ := Aside0.mk (hb); have n5_ := Aside0.mk (ho); clear HO_195001; clear BK193; clear BK194; clear HO206; clear HB; clear HO_195000; have HO_195001 := n0_; have BK193 := n1_; have BK194 := n2_; have HO206 := n3_; have HB := n4_; have HO210 := n5_; clear n0_ n1_ n2_ n3_ n4_ n5_; clear ho hb hg hat; obtain ⟨Ao48, co48, eo48⟩ := Kd.R_slice HO210.out; subst eo48; have hcz49_0 : w47.cell? ⟨gb194, 0, none⟩ = some (u195000) := (blk_cell BK194.out 0).trans rfl; have hcz49_1 : w47.cell? ⟨gb194, 1, none⟩ = some (.slice Ao42 x195001_2.length co42) := (blk_cell BK194.out 1).trans rfl; have hfz49_0 := blk_frozen BK194.out 0; have hfz49_1 := blk_frozen BK194.out 1) | ((with_reducible refine gate_builtin (b := .append) (xs := #[.tmp 74, .tmp 76]) rfl ?_); at_builtin; refine Kd.R_append (Kd.int .i64) (w0 := w) w.heap.size rfl (.tmp 74) (.tmp 76) 23 3 (.int .i64 0) 8 rfl Try.underlying23 info3 rfl (by decide) (by omega) (.slice Ao42 x195001_2.length co42) x195001_2 (rd t204 0) [.int .i64 (rd t204 0)] (fun k_ => some k_ ≠ (.slice (some ad207) t204.length co44 : Value).ownBlock) (fun _ => False) rfl (by first | (go_simp; done) | (go_simp; rfl)) ?aP (fun _ hk => hk.elim) ?aF ?aO ?aB ?aS ?aL ?_; (case aP => exact rfl); (case aB => exact (by repeat (first | (with_reducible first | exact HB.out | apply below_alloc | apply pw_below_drewN | apply below_drew1 | refine below_set ?_ GE193.out | refine below_set ?_ GE194.out) | exact HB.out))); (case aF => exact (fun k_ hk => Kd.fresh' (Kd.R_lt (by (with_reducible repeat (first | apply Kd.R_alloc | apply Kd.R_drewN | apply Kd.R_drew)); exact (Kd.R_mono (Kd.R_far (p := ⟨gb194, 0, none⟩) (Kd.R_types HO206.out BK194.out (by decide)) (fun _ hk => hk.2) (.slice Ao48 y208.length co48)) (fun _ h_ => h_.1)))) k_ hk)); (case aO => exact (by (with_reducible repeat (first | apply Kd.R_alloc | apply Kd.R_drewN | apply Kd.R_drew)); exact Kd.R_mono (Kd.R_far (p := ⟨gb194, 0, none⟩) (Kd.R_types HO_195001.out BK194.out (by decide)) (fun _ hk => hk.2) (.slice Ao48 y208.length co48)) (fun _ hk => hk.1.2))); (case aS => exact (below_size (by repeat (first | (with_reducible first | exact HB.out | apply below_alloc | apply pw_below_drewN | apply below_drew1 | refine below_set ?_ GE193.out | refine below_set ?_ GE194.out) | exact HB.out)))); (case aL => have := LMc40.out; omega); intro v212 w50 ho hb hg hat; rw [← Ny211.out] at ho; have n0_ := Aside0.mk (blk_grown (g := gb193) (o := .cells #[.slice none 0 0, .slice none 0 0] 87 (0, 0)) (by (with_reducible repeat (first | refine blk_drewN ?_ _ | refine blk_drew ?_ | refine blk_alloc ?_ _)); refine blk_far ?_ NB193_194.out _; (with_reducible repeat (first | refine blk_drewN ?_ _ | refine blk_drew ?_ | refine blk_alloc ?_ _)); exact BK193.out) hg (Kd.R_ne HO_195001.out BK193.out (by decide))); have n1_ := Aside0.mk (blk_grown (g := gb194) (o := .cells #[.slice Ao48 y208.length co48, .slice Ao42 x195001_2.length co42] 87 (0, 0)) (by (with_reducible repeat (first | refine blk_drewN ?_ _ | refine blk_drew ?_ | refine blk_alloc ?_ _)); refine blk_put (cs := #[u195000, .slice Ao42 x195001_2.length co42]) ?_ 0 _ rfl; (with_reducible repeat (first | refine blk_drewN ?_ _ | refine blk_drew ?_ | refine blk_alloc ?_ _)); exact BK194.out) hg (Kd.R_ne HO_195001.out BK194.out (by decide))); have n2_ := Aside0.mk (Kd.R_after (ok := (fun _ => True)) (by (with_reducible repeat (first | apply Kd.R_alloc | apply Kd.R_drewN | apply Kd.R_drew)); exact Kd.R_mono (Kd.R_far (p := ⟨gb194, 0, none⟩) (Kd.R_types HO206.out BK194.out (by decide)) (fun _ hk => hk.2) (.slice Ao48 y208.length co48)) (fun _ hk => ⟨trivial, hk.1.2⟩)) hg hat); have n3_ := Aside0.mk (Kd.R_over' (by (with_reducible repeat (first | apply Kd.R_alloc | apply Kd.R_drewN | apply Kd.R_drew)); exact (Kd.R_mono (Kd.R_far (p := ⟨gb194, 0, none⟩) (Kd.R_types HO210.out BK194.out (by decide)) (fun _ hk => hk.2) (.slice Ao48 y208.length co48)) (fun _ h_ => h_.1))) (Kd.R_typed (by (with_reducible repeat (first | apply Kd.R_alloc | apply Kd.R_drewN | apply Kd.R_drew)); exact (Kd.R_mono (Kd.R_far (p := ⟨gb194, 0, none⟩) (Kd.R_types HO_195001.out BK194.out (by decide)) (fun _ hk => hk.2) (.slice Ao48 y208.length co48)) (fun _ h_ => h_.1)))) (by decide) hg); have n4_ := Aside0.mk (hb); have n5_ := Aside0.mk (ho); clear BK193; clear BK194; clear HO206; clear HO210; clear HB; clear HO_195001; have BK193 := n0_; have BK194 := n1_; have HO206 := n2_; have HO210 := n3_; have HB := n4_; have HO213 := n5_; clear n0_ n1_ n2_ n3_ n4_ n5_; clear ho hb hg hat; obtain ⟨Ao51, co51, eo51⟩ := Kd.R_slice HO213.out; subst eo51; have hcz52_0 : w50.cell? ⟨gb194, 0, none⟩ = some (.slice Ao48 y208.length co48) := (blk_cell BK194.out 0).trans rfl; have hcz52_1 : w50.cell? ⟨gb194, 1, none⟩ = some (.slice Ao42 x195001_2.length co42) := (blk_cell BK194.out 1).trans rfl; have hfz52_0 := blk_frozen BK194.out 0; have hfz52_1 := blk_frozen BK194.out 1))
                  go_roundg kj13
                  case measure => have := HK1.out; have := HK2.out; have := HK3.out; have := HJ13.out; omega
                  case rel => exact ⟨(wrap64 (x9_2 + 1)), (y208), (y211), (.slice Ao48 y208.length co48), (.slice Ao51 y211.length co51), (by first | rfl | (simp; done) | (simp [*]; done)), H', ⟨by have := HK1.out; have := HK2.out; have := HK3.out; have := HJ13.out; omega⟩, ⟨by (with_reducible repeat (first | apply Kd.R_alloc | apply Kd.R_drewN | apply Kd.R_drew)); exact Kd.R_mono (Kd.R_far (p := ⟨gb194, 1, none⟩) (Kd.R_types HO210.out BK194.out (by decide)) (fun _ hk => hk.2) (.slice Ao51 y211.length co51)) (fun _ hk => trivial)⟩, ⟨by (with_reducible repeat (first | apply Kd.R_alloc | apply Kd.R_drewN | apply Kd.R_drew)); exact Kd.R_mono (Kd.R_far (p := ⟨gb194, 1, none⟩) (Kd.R_types HO213.out BK194.out (by decide)) (fun _ hk => hk.2) (.slice Ao51 y211.length co51)) (fun _ hk => trivial)⟩, ⟨by (with_reducible repeat (first | refine blk_drewN ?_ _ | refine blk_drew ?_ | refine blk_alloc ?_ _)); refine blk_far ?_ NB193_194.out _; (with_reducible repeat (first | refine blk_drewN ?_ _ | refine blk_drew ?_ | refine blk_alloc ?_ _)); exact BK193.out⟩, ⟨by (with_reducible repeat (first | refine blk_drewN ?_ _ | refine blk_drew ?_ | refine blk_alloc ?_ _)); refine blk_put (cs := #[.slice Ao48 y208.length co48, .slice Ao42 x195001_2.length co42]) ?_ 1 _ rfl; (with_reducible repeat (first | refine blk_drewN ?_ _ | refine blk_drew ?_ | refine blk_alloc ?_ _)); exact BK194.out⟩, ⟨by repeat (first | (with_reducible first | exact HB.out | apply below_alloc | apply pw_below_drewN | apply below_drew1 | refine below_set ?_ GE193.out | refine below_set ?_ GE194.out) | exact HB.out)⟩⟩
                 ·
                  rw [if_neg c40] at H
                  exact absurd H (by simp)
                ·
                 rw [if_neg c39] at H
                 exact absurd H (by simp)
               ·
                rw [if_neg c38] at H
                exact absurd H (by simp)
              ·
               rw [if_neg c36] at H
               exact absurd H (by simp)
             ·
              rw [if_neg c35] at H
              exact absurd H (by simp)
      ·
       rw [if_neg c13] at H
       have c13b0 : decide (x9_2 < a0) = false := decide_eq_false c13
       clear c13
       simp only [Option.some.injEq, Prod.mk.injEq] at H
       obtain ⟨rfl, rfl⟩ := H
       have hnb53 := NB194_193.out
       have hnc53 := NB193_194.out
       have hcz54_0 : wr.cell? ⟨gb194, 0, none⟩ = some (u195000) := (blk_cell BK194.out 0).trans rfl
       have hcz54_1 : wr.cell? ⟨gb194, 1, none⟩ = some (u195001) := (blk_cell BK194.out 1).trans rfl
       have hfz54_0 := blk_frozen BK194.out 0
       have hfz54_1 := blk_frozen BK194.out 1
       obtain ⟨Ao55, co55, eo55⟩ := Kd.R_slice HO_195000.out
       subst eo55
       have hcz56_0 : wr.cell? ⟨gb193, 0, none⟩ = some (.slice none 0 0) := (blk_cell BK193.out 0).trans rfl
       have hcz56_1 : wr.cell? ⟨gb193, 1, none⟩ = some (.slice none 0 0) := (blk_cell BK193.out 1).trans rfl
       have hfz56_0 := blk_frozen BK193.out 0
       have hfz56_1 := blk_frozen BK193.out 1
       obtain ⟨Ao57, co57, eo57⟩ := Kd.R_slice HO_195001.out
       subst eo57
       go_wp2
       refine bodyPost_ret (results_cell_row rfl _ _ gb193 87 #[.slice Ao55 x195000_2.length co55, .slice Ao57 x195001_2.length co57] (0, 0) _ rfl (by (with_reducible repeat (first | refine blk_drewN ?_ _ | refine blk_drew ?_ | refine blk_alloc ?_ _)); refine blk_put (cs := #[.slice Ao55 x195000_2.length co55, .slice none 0 0]) ?_ 1 _ rfl; (with_reducible repeat (first | refine blk_drewN ?_ _ | refine blk_drew ?_ | refine blk_alloc ?_ _)); refine blk_put (cs := #[.slice none 0 0, .slice none 0 0]) ?_ 0 _ rfl; (with_reducible repeat (first | refine blk_drewN ?_ _ | refine blk_drew ?_ | refine blk_alloc ?_ _)); exact BK193.out) Try.underlying87 rfl (by kernel_rfl)) rfl ?_
       exact ⟨_, _, by first | rfl | (simp [errW_none, errW_some] <;> rfl) | (simp [*, errW_none, errW_some] <;> rfl), by (with_reducible repeat (first | apply Kd.R_alloc | apply Kd.R_drewN | apply Kd.R_drew)); exact Kd.R_mono (Kd.R_far (p := ⟨gb193, 1, none⟩) (Kd.R_far (p := ⟨gb193, 0, none⟩) (Kd.R_types HO_195000.out BK193.out (by decide)) (fun _ hk => hk.2) (.slice Ao55 x195000_2.length co55)) (fun _ hk => hk.2) (.slice Ao57 x195001_2.length co57)) (fun _ hk => trivial), by (with_reducible repeat (first | apply Kd.R_alloc | apply Kd.R_drewN | apply Kd.R_drew)); exact Kd.R_mono (Kd.R_far (p := ⟨gb193, 1, none⟩) (Kd.R_far (p := ⟨gb193, 0, none⟩) (Kd.R_types HO_195001.out BK193.out (by decide)) (fun _ hk => hk.2) (.slice Ao55 x195000_2.length co55)) (fun _ hk => hk.2) (.slice Ao57 x195001_2.length co57)) (fun _ hk => trivial), by repeat (first | (with_reducible first | exact HB.out | apply below_alloc | apply pw_below_drewN | apply below_drew1 | refine below_set ?_ GE193.out | refine below_set ?_ GE194.out) | exact HB.out)⟩

end Go.Proofs.Ytnchcapdfmccjaa.Print
/-! #### Pr23 -/
-- By the kit's print, called by a program of this session with functions that are proved by hand.
namespace Go.Proofs.Ytnchcapdfmccjaa.Print
open Go.RowKit Go.Proofs.YtnchcapdfmccjaaW.PrintWords Go.Proofs.YtnchcapdfmccjaaW.PrintLast Go.Proofs.YtnchcapdfmccjaaW.PrintMore
attribute [local go_sem] max2_int min2_int max_two min_two max_three min_three max_four min_four
set_option linter.unusedVariables false
set_option linter.unusedSimpArgs false

/-! ### mosaicref13_Steps: function 23 -/
def mosaicref13_Steps.f (k : Nat) (a0 : Int) (l1 : List (List Int)) (l2 : List Int) : Option ((List (S39)) × Int) := (mosaicref13_May.f k a0 l1 l2).bind fun t214 => (if t214 = true then ((mosaicref13_Peel.f k a0 l1 l2).bind fun bt215 => (some (bt215.1, 0))) else (some (([] : List (S39)), 1)))
theorem mosaicref13_Steps.mono : ∀ a0 a1 a2 k, LeO (mosaicref13_Steps.f k a0 a1 a2) (mosaicref13_Steps.f (k + 1) a0 a1 a2) := by
 intro a0 a1 a2 k
 unfold mosaicref13_Steps.f
 repeat' first
   | (with_reducible exact mosaicref13_May.mono _ _ _ _)
   | (with_reducible exact mosaicref13_Peel.mono _ _ _ _)
   | (with_reducible exact LeO.refl _)
   | (with_reducible exact LeO.none _)
   | (with_reducible refine LeO.ite ?_ ?_)
   | (with_reducible refine LeO.bind ?_ (fun _ => ?_))
   | exact mosaicref13_May.mono _ _ _ _
   | exact mosaicref13_Peel.mono _ _ _ _
   | exact LeO.none _
   | refine LeO.ite ?_ ?_
   | refine LeO.bind ?_ (fun _ => ?_)
set_option maxHeartbeats 8000000 in
set_option maxRecDepth 100000 in
theorem mosaicref13_Steps.calls (k : Nat) (a0 : Int) (A1 : Option Addr) (c1 : Nat) (l1 : List (List Int)) (A2 : Option Addr) (c2 : Nat) (l2 : List Int) (r1 : List (S39)) (r2 : Int) (w : World) (hr1 : Kd.C (Kd.slice 3 (Kd.int .i64)) w A1 l1.length l1) (hc1 : l1.length ≤ c1) (hr2 : Kd.C (Kd.int .i64) w A2 l2.length l2) (hc2 : l2.length ≤ c2) (h : mosaicref13_Steps.f k a0 l1 l2 = some (r1, r2)) :
  Calls Try.prog 23 #[.int .i64 a0, .slice A1 l1.length c1, .slice A2 l2.length c2] w fun e w' => ∃ v0_ : Value, e = .returned (.tuple #[v0_, .int .i64 r2]) ∧ Kd.R k39 39 w' w.heap.size (fun _ => True) v0_ r1 ∧ Below w.heap.size w w' := by
 have hfd87_0 : ∀ (y0_ y1_ : Value) (W : World), (Instr.field 87 (.agg #[y0_, y1_]) 0).run Try.prog W = .ok (y0_) W := fun y0_ y1_ W => by kernel_rfl
 have HR1 := Aside0.mk hr1
 have HC1 := Aside0.mk hc1
 clear hr1 hc1
 have HR2 := Aside0.mk hr2
 have HC2 := Aside0.mk hc2
 clear hr2 hc2
 have HB := Aside0.mk (Below.refl w.heap.size w)
 have H : ((mosaicref13_May.f k a0 l1 l2).bind fun t214 => (if t214 = true then ((mosaicref13_Peel.f k a0 l1 l2).bind fun bt215 => (some (bt215.1, 0))) else (some (([] : List (S39)), 1)))) = some (r1, r2) := h
 clear h
 replace H := Option.bind_eq_some_iff.mp H
 obtain ⟨t214, A40, H⟩ := H
 replace H : (if t214 = true then ((mosaicref13_Peel.f k a0 l1 l2).bind fun bt215 => (some (bt215.1, 0))) else (some (([] : List (S39)), 1))) = some (r1, r2) := H
 have A4 := Aside0.mk A40
 clear A40
 by_cases c5 : t214 = true
 ·
  subst c5
  have H1 : ((mosaicref13_Peel.f k a0 l1 l2).bind fun bt215 => (some (bt215.1, 0))) = some (r1, r2) := by rw [if_pos rfl] at H; exact H
  clear H
  have H := H1
  clear H1
  replace H := Option.bind_eq_some_iff.mp H
  obtain ⟨⟨t215, t218⟩, A60, H⟩ := H
  replace H : (some (t215, 0)) = some (r1, r2) := H
  have A6 := Aside0.mk A60
  clear A60
  simp only [Option.some.injEq, Prod.mk.injEq] at H
  obtain ⟨rfl, rfl⟩ := H
  go_enter Try.func23, Try.ntmps23
  go_wp2_with (first | ((with_reducible refine gate_callee (f := 63) rfl ?_); refine goesL_ (some 11) rfl rfl Try.func63 (by kernel_rfl) rfl #[.int .i64 a0, .slice A1 l1.length c1, .slice A2 l2.length c2] rfl (by (try simp only [List.map_toArray, List.map_cons, List.map_nil]); first | done | rfl | (simp only [List.length_drop, List.length_take]; rfl)) ?_; (with_reducible refine (mosaicref13_May.calls k a0 _ _ l1 (fun k_ => k_ < w.heap.size) _ _ l2 true _ ?side1 ?side2 ?side3 A4.out).mono ?_); (case side1 => repeat (first | exact HR1.out | (with_reducible refine Kd.C_alloc ?_ _) | (with_reducible refine Kd.C_drewN ?_ _) | (with_reducible refine Kd.C_drew ?_))); (case side2 => exact HC1.out); (case side3 => exact Kd.V_mk HC2.out (Kd.F_below (Kd.C_F (Kd.heap_int .i64) HR2.out) (by repeat (first | (with_reducible first | exact HB.out | apply below_alloc | apply pw_below_drewN | apply below_drew1) | exact HB.out)))); rintro e w7 ⟨rfl, hb⟩; refine ⟨_, rfl, ?_⟩; have n0_ := Aside0.mk (below_step (by repeat (first | (with_reducible first | exact HB.out | apply below_alloc | apply pw_below_drewN | apply below_drew1) | exact HB.out)) hb); clear HB; have HB := n0_; clear n0_; (try clear hb); (try clear hb2); (try clear hk); (try clear hi)) | ((with_reducible refine gate_callee (f := 64) rfl ?_); refine goesL_ (some 16) rfl rfl Try.func64 (by kernel_rfl) rfl #[.int .i64 a0, .slice A1 l1.length c1, .slice A2 l2.length c2] rfl (by (try simp only [List.map_toArray, List.map_cons, List.map_nil]); first | done | rfl | (simp only [List.length_drop, List.length_take]; rfl)) ?_; (with_reducible refine (mosaicref13_Peel.calls k a0 _ _ l1 _ _ l2 t215 t218 _ ?side1 ?side2 ?side3 ?side4 A6.out).mono ?_); (case side1 => repeat (first | exact (Kd.C_below HR1.out HB.out) | (with_reducible refine Kd.C_alloc ?_ _) | (with_reducible refine Kd.C_drewN ?_ _) | (with_reducible refine Kd.C_drew ?_))); (case side2 => exact HC1.out); (case side3 => repeat (first | exact (Kd.C_below HR2.out HB.out) | (with_reducible refine Kd.C_alloc ?_ _) | (with_reducible refine Kd.C_drewN ?_ _) | (with_reducible refine Kd.C_drew ?_))); (case side4 => exact HC2.out); rintro e w8 ⟨v216, v219, rfl, ho0, ho1, hb⟩; refine ⟨_, rfl, ?_⟩; have n0_ := Aside0.mk (Kd.R_lower ho0 (below_size (by repeat (first | (with_reducible first | exact HB.out | apply below_alloc | apply pw_below_drewN | apply below_drew1) | exact HB.out)))); have n1_ := Aside0.mk (Kd.R_lower ho1 (below_size (by repeat (first | (with_reducible first | exact HB.out | apply below_alloc | apply pw_below_drewN | apply below_drew1) | exact HB.out)))); have n2_ := Aside0.mk (below_step (by repeat (first | (with_reducible first | exact HB.out | apply below_alloc | apply pw_below_drewN | apply below_drew1) | exact HB.out)) hb); clear HB; have HO217 := n0_; have HO220 := n1_; have HB := n2_; clear n0_ n1_ n2_; (try clear hb); (try clear hb2); (try clear hk); (try clear hi); (try clear ho0); (try clear ho1)))
  go_ret2
  exact ⟨_, by first | rfl | (simp [errW_none, errW_some] <;> rfl) | (simp [*, errW_none, errW_some] <;> rfl), by (with_reducible repeat (first | apply Kd.R_alloc | apply Kd.R_drewN | apply Kd.R_drew)); exact HO217.out, by repeat (first | (with_reducible first | exact HB.out | apply below_alloc | apply pw_below_drewN | apply below_drew1) | exact HB.out)⟩
 ·
  replace c5 := Bool.eq_false_iff.mpr c5
  subst c5
  have H1 : (some (([] : List (S39)), 1)) = some (r1, r2) := by rw [if_neg (show ¬ (false = true) by decide)] at H; exact H
  clear H
  have H := H1
  clear H1
  simp only [Option.some.injEq, Prod.mk.injEq] at H
  obtain ⟨rfl, rfl⟩ := H
  go_enter Try.func23, Try.ntmps23
  go_wp2_with (first | ((with_reducible refine gate_callee (f := 63) rfl ?_); refine goesL_ (some 11) rfl rfl Try.func63 (by kernel_rfl) rfl #[.int .i64 a0, .slice A1 l1.length c1, .slice A2 l2.length c2] rfl (by (try simp only [List.map_toArray, List.map_cons, List.map_nil]); first | done | rfl | (simp only [List.length_drop, List.length_take]; rfl)) ?_; (with_reducible refine (mosaicref13_May.calls k a0 _ _ l1 (fun k_ => k_ < w.heap.size) _ _ l2 false _ ?side1 ?side2 ?side3 A4.out).mono ?_); (case side1 => repeat (first | exact HR1.out | (with_reducible refine Kd.C_alloc ?_ _) | (with_reducible refine Kd.C_drewN ?_ _) | (with_reducible refine Kd.C_drew ?_))); (case side2 => exact HC1.out); (case side3 => exact Kd.V_mk HC2.out (Kd.F_below (Kd.C_F (Kd.heap_int .i64) HR2.out) (by repeat (first | (with_reducible first | exact HB.out | apply below_alloc | apply pw_below_drewN | apply below_drew1) | exact HB.out)))); rintro e w9 ⟨rfl, hb⟩; refine ⟨_, rfl, ?_⟩; have n0_ := Aside0.mk (below_step (by repeat (first | (with_reducible first | exact HB.out | apply below_alloc | apply pw_below_drewN | apply below_drew1) | exact HB.out)) hb); clear HB; have HB := n0_; clear n0_; (try clear hb); (try clear hb2); (try clear hk); (try clear hi)))
  go_ret2
  exact ⟨_, by first | rfl | (simp [errW_none, errW_some] <;> rfl) | (simp [*, errW_none, errW_some] <;> rfl), by first | exact Kd.R_nil _ _ _ _ _ | exact Kd.N_nil _ _ _ _ _ | exact Kd.V_nil _ _ _ _ _ | exact Kd.Q_nil _ _ _ _ _ | exact Kd.S_nil _ _ _ _ _, by repeat (first | (with_reducible first | exact HB.out | apply below_alloc | apply pw_below_drewN | apply below_drew1) | exact HB.out)⟩

end Go.Proofs.Ytnchcapdfmccjaa.Print
/-! #### Pr24 -/
-- By the kit's print, called by a program of this session with functions that are proved by hand.
namespace Go.Proofs.Ytnchcapdfmccjaa.Print
open Go.RowKit Go.Proofs.YtnchcapdfmccjaaW.PrintWords Go.Proofs.YtnchcapdfmccjaaW.PrintLast Go.Proofs.YtnchcapdfmccjaaW.PrintMore
attribute [local go_sem] max2_int min2_int max_two min_two max_three min_three max_four min_four
set_option linter.unusedVariables false
set_option linter.unusedSimpArgs false

/-! ### mosaicref13_Known: function 24 -/
def mosaicref13_Known.l0 : Nat → Int → List Int → Int → List (S39) → List Int → Option (List Int × Int)
 | 0, _, _, _, _, _ => none
 | k + 1, x0, x8, x10, x229000, x229001 => if x10 < x0 then ((mosaicref09_Has.f k x229001 x10).bind fun t229 => (if t229 = true then (if x8.length < 17592186044416 then (mosaicref13_Known.l0 k x0 (x8 ++ [x10]) (wrap64 (x10 + 1)) x229000 x229001) else (none)) else (mosaicref13_Known.l0 k x0 x8 (wrap64 (x10 + 1)) x229000 x229001))) else (some (x8, 0))
def mosaicref13_Known.f (k : Nat) (a0 : Int) (l1 : List (List Int)) (l2 : List Int) : Option (List Int × Int) := (mosaicref13_May.f k a0 l1 l2).bind fun t221 => (if t221 = true then ((mosaicref13_Peel.f k a0 l1 l2).bind fun bt222 => (mosaicref13_Known.l0 k a0 ([] : List Int) 0 bt222.1 bt222.2)) else (some (([] : List Int), 1)))
theorem mosaicref13_Known.mono_l : ∀ k, (∀ y0 y1 y2 y3 y4, LeO (mosaicref13_Known.l0 k y0 y1 y2 y3 y4) (mosaicref13_Known.l0 (k + 1) y0 y1 y2 y3 y4))
 | 0 => fun _ _ _ _ _ r h => by simp [mosaicref13_Known.l0] at h
 | k + 1 => by
  have ih0 := mosaicref13_Known.mono_l k
  ·
   intro y0 y1 y2 y3 y4
   unfold mosaicref13_Known.l0
   repeat' first
   | (with_reducible exact ih0 _ _ _ _ _)
   | (with_reducible exact mosaicref09_Has.mono _ _ _)
   | (with_reducible exact mosaicref13_May.mono _ _ _ _)
   | (with_reducible exact mosaicref13_Peel.mono _ _ _ _)
   | (with_reducible exact LeO.refl _)
   | (with_reducible exact LeO.none _)
   | (with_reducible refine LeO.ite ?_ ?_)
   | (with_reducible refine LeO.bind ?_ (fun _ => ?_))
   | exact ih0 _ _ _ _ _
   | exact mosaicref09_Has.mono _ _ _
   | exact mosaicref13_May.mono _ _ _ _
   | exact mosaicref13_Peel.mono _ _ _ _
   | exact LeO.none _
   | refine LeO.ite ?_ ?_
   | refine LeO.bind ?_ (fun _ => ?_)
theorem mosaicref13_Known.mono : ∀ a0 a1 a2 k, LeO (mosaicref13_Known.f k a0 a1 a2) (mosaicref13_Known.f (k + 1) a0 a1 a2) := by
 intro a0 a1 a2 k
 have ih0 := mosaicref13_Known.mono_l k
 unfold mosaicref13_Known.f
 repeat' first
   | (with_reducible exact ih0 _ _ _ _ _)
   | (with_reducible exact mosaicref09_Has.mono _ _ _)
   | (with_reducible exact mosaicref13_May.mono _ _ _ _)
   | (with_reducible exact mosaicref13_Peel.mono _ _ _ _)
   | (with_reducible exact LeO.refl _)
   | (with_reducible exact LeO.none _)
   | (with_reducible refine LeO.ite ?_ ?_)
   | (with_reducible refine LeO.bind ?_ (fun _ => ?_))
   | exact ih0 _ _ _ _ _
   | exact mosaicref09_Has.mono _ _ _
   | exact mosaicref13_May.mono _ _ _ _
   | exact mosaicref13_Peel.mono _ _ _ _
   | exact LeO.none _
   | refine LeO.ite ?_ ?_
   | refine LeO.bind ?_ (fun _ => ?_)
set_option maxHeartbeats 8000000 in
set_option maxRecDepth 100000 in
theorem mosaicref13_Known.calls (k : Nat) (a0 : Int) (A1 : Option Addr) (c1 : Nat) (l1 : List (List Int)) (A2 : Option Addr) (c2 : Nat) (l2 : List Int) (r1 : List Int) (r2 : Int) (w : World) (hr1 : Kd.C (Kd.slice 3 (Kd.int .i64)) w A1 l1.length l1) (hc1 : l1.length ≤ c1) (hr2 : Kd.C (Kd.int .i64) w A2 l2.length l2) (hc2 : l2.length ≤ c2) (h : mosaicref13_Known.f k a0 l1 l2 = some (r1, r2)) :
  Calls Try.prog 24 #[.int .i64 a0, .slice A1 l1.length c1, .slice A2 l2.length c2] w fun e w' => ∃ v0_ : Value, e = .returned (.tuple #[v0_, .int .i64 r2]) ∧ Kd.R (Kd.int .i64) 3 w' w.heap.size (fun _ => True) v0_ r1 ∧ Below w.heap.size w w' := by
 have hu87 := Try.underlying87
 have HR1 := Aside0.mk hr1
 have HC1 := Aside0.mk hc1
 clear hr1 hc1
 have HR2 := Aside0.mk hr2
 have HC2 := Aside0.mk hc2
 clear hr2 hc2
 have HB := Aside0.mk (Below.refl w.heap.size w)
 have H : ((mosaicref13_May.f k a0 l1 l2).bind fun t221 => (if t221 = true then ((mosaicref13_Peel.f k a0 l1 l2).bind fun bt222 => (mosaicref13_Known.l0 k a0 ([] : List Int) 0 bt222.1 bt222.2)) else (some (([] : List Int), 1)))) = some (r1, r2) := h
 clear h
 replace H := Option.bind_eq_some_iff.mp H
 obtain ⟨t221, A40, H⟩ := H
 replace H : (if t221 = true then ((mosaicref13_Peel.f k a0 l1 l2).bind fun bt222 => (mosaicref13_Known.l0 k a0 ([] : List Int) 0 bt222.1 bt222.2)) else (some (([] : List Int), 1))) = some (r1, r2) := H
 have A4 := Aside0.mk A40
 clear A40
 by_cases c5 : t221 = true
 ·
  subst c5
  have H1 : ((mosaicref13_Peel.f k a0 l1 l2).bind fun bt222 => (mosaicref13_Known.l0 k a0 ([] : List Int) 0 bt222.1 bt222.2)) = some (r1, r2) := by rw [if_pos rfl] at H; exact H
  clear H
  have H := H1
  clear H1
  replace H := Option.bind_eq_some_iff.mp H
  obtain ⟨⟨t222, t225⟩, A60, H⟩ := H
  replace H : (mosaicref13_Known.l0 k a0 ([] : List Int) 0 t222 t225) = some (r1, r2) := H
  have A6 := Aside0.mk A60
  clear A60
  have H' := Aside0.mk H
  clear H
  go_enter Try.func24, Try.ntmps24
  go_wp2_with (first | ((with_reducible refine gate_callee (f := 63) rfl ?_); refine goesL_ (some 14) rfl rfl Try.func63 (by kernel_rfl) rfl #[.int .i64 a0, .slice A1 l1.length c1, .slice A2 l2.length c2] rfl (by (try simp only [List.map_toArray, List.map_cons, List.map_nil]); first | done | rfl | (simp only [List.length_drop, List.length_take]; rfl)) ?_; (with_reducible refine (mosaicref13_May.calls k a0 _ _ l1 (fun k_ => k_ < w.heap.size) _ _ l2 true _ ?side1 ?side2 ?side3 A4.out).mono ?_); (case side1 => repeat (first | exact HR1.out | (with_reducible refine Kd.C_alloc ?_ _) | (with_reducible refine Kd.C_drewN ?_ _) | (with_reducible refine Kd.C_drew ?_))); (case side2 => exact HC1.out); (case side3 => exact Kd.V_mk HC2.out (Kd.F_below (Kd.C_F (Kd.heap_int .i64) HR2.out) (by repeat (first | (with_reducible first | exact HB.out | apply below_alloc | apply pw_below_drewN | apply below_drew1) | exact HB.out)))); rintro e w7 ⟨rfl, hb⟩; refine ⟨_, rfl, ?_⟩; have n0_ := Aside0.mk (below_step (by repeat (first | (with_reducible first | exact HB.out | apply below_alloc | apply pw_below_drewN | apply below_drew1) | exact HB.out)) hb); clear HB; have HB := n0_; clear n0_; (try clear hb); (try clear hb2); (try clear hk); (try clear hi)) | ((with_reducible refine gate_callee (f := 64) rfl ?_); refine goesL_ (some 19) rfl rfl Try.func64 (by kernel_rfl) rfl #[.int .i64 a0, .slice A1 l1.length c1, .slice A2 l2.length c2] rfl (by (try simp only [List.map_toArray, List.map_cons, List.map_nil]); first | done | rfl | (simp only [List.length_drop, List.length_take]; rfl)) ?_; (with_reducible refine (mosaicref13_Peel.calls k a0 _ _ l1 _ _ l2 t222 t225 _ ?side1 ?side2 ?side3 ?side4 A6.out).mono ?_); (case side1 => repeat (first | exact (Kd.C_below HR1.out HB.out) | (with_reducible refine Kd.C_alloc ?_ _) | (with_reducible refine Kd.C_drewN ?_ _) | (with_reducible refine Kd.C_drew ?_))); (case side2 => exact HC1.out); (case side3 => repeat (first | exact (Kd.C_below HR2.out HB.out) | (with_reducible refine Kd.C_alloc ?_ _) | (with_reducible refine Kd.C_drewN ?_ _) | (with_reducible refine Kd.C_drew ?_))); (case side4 => exact HC2.out); rintro e w8 ⟨v223, v226, rfl, ho0, ho1, hb⟩; refine ⟨_, rfl, ?_⟩; have n0_ := Aside0.mk (Kd.R_lower ho0 (below_size (by repeat (first | (with_reducible first | exact HB.out | apply below_alloc | apply pw_below_drewN | apply below_drew1) | exact HB.out)))); have n1_ := Aside0.mk (Kd.R_lower ho1 (below_size (by repeat (first | (with_reducible first | exact HB.out | apply below_alloc | apply pw_below_drewN | apply below_drew1) | exact HB.out)))); have n2_ := Aside0.mk (below_step (by repeat (first | (with_reducible first | exact HB.out | apply below_alloc | apply pw_below_drewN | apply below_drew1) | exact HB.out)) hb); clear HB; have HO224 := n0_; have HO227 := n1_; have HB := n2_; clear n0_ n1_ n2_; (try clear hb); (try clear hb2); (try clear hk); (try clear hi); (try clear ho0); (try clear ho1)) | ((with_reducible refine gate_dst (N := 9) rfl ?_); refine box_event ?hg (N := 9) ?hd (cs := #[.slice none 0 0, .slice none 0 0]) (t := 87) ?hr ?_; (case hd => rfl); (case hg => rfl); (case hr => first | (go_simp; done) | (go_simp; rfl)); intro gb228 hg w9 hbox hb; have n0_ := Aside0.mk (Kd.R_below (by (with_reducible repeat (first | apply Kd.R_alloc | apply Kd.R_drewN | apply Kd.R_drew)); exact HO224.out) hb); have n1_ := Aside0.mk (Kd.R_below (by (with_reducible repeat (first | apply Kd.R_alloc | apply Kd.R_drewN | apply Kd.R_drew)); exact HO227.out) hb); have n2_ := Aside0.mk (below_step (by repeat (first | (with_reducible first | exact HB.out | apply below_alloc | apply pw_below_drewN | apply below_drew1) | exact HB.out)) hb); have n3_ := Aside0.mk (hbox); have n4_ := Aside0.mk ((by rw [hg]; exact (below_size (by repeat (first | (with_reducible first | exact HB.out | apply below_alloc | apply pw_below_drewN | apply below_drew1) | exact HB.out))) : w.heap.size ≤ gb228)); have n5_ := Aside0.mk ((by rw [hg]; exact (below_size (by repeat (first | (with_reducible first | exact HB.out | apply below_alloc | apply pw_below_drewN | apply below_drew1) | exact HB.out))) : w.heap.size ≤ gb228)); clear HO224; clear HO227; clear HB; have HO224 := n0_; have HO227 := n1_; have HB := n2_; have BK228 := n3_; have GW228 := n4_; have GE228 := n5_; clear n0_ n1_ n2_ n3_ n4_ n5_; clear hb hbox hg; obtain ⟨Ao10, co10, eo10⟩ := Kd.R_slice HO224.out; subst eo10; have hcz11_0 : w9.cell? ⟨gb228, 0, none⟩ = some (.slice none 0 0) := (blk_cell BK228.out 0).trans rfl; have hcz11_1 : w9.cell? ⟨gb228, 1, none⟩ = some (.slice none 0 0) := (blk_cell BK228.out 1).trans rfl; have hfz11_0 := blk_frozen BK228.out 0; have hfz11_1 := blk_frozen BK228.out 1; obtain ⟨Ao12, co12, eo12⟩ := Kd.R_slice HO227.out; subst eo12))
  go_loopg [8, 10] k (fun kq v8 v10 w' => ∃ (x8_1 : List Int) (x10_1 : Int), v10 = .int .i64 x10_1 ∧ Aside0 (mosaicref13_Known.l0 kq a0 x8_1 x10_1 t222 t225 = some (r1, r2)) ∧ Aside0 (kq ≤ k) ∧ Aside0 (Kd.R (Kd.int .i64) 3 w' w.heap.size (fun k_ => some k_ ≠ ((.slice Ao12 t225.length co12) : Value).ownBlock) v8 x8_1) ∧ Aside0 (Kd.R k39 39 w' w.heap.size (fun _ => True) (.slice Ao10 t222.length co10) t222) ∧ Aside0 (Kd.R (Kd.int .i64) 3 w' w.heap.size (fun k_ => some k_ ≠ (v8 : Value).ownBlock) (.slice Ao12 t225.length co12) t225) ∧ Aside0 (w'.heap[gb228]? = some (.cells #[(.slice Ao10 t222.length co10), (.slice Ao12 t225.length co12)] 87 (0, 0))) ∧ Aside0 (Below w.heap.size w w'))
  case atStart => exact ⟨(([] : List Int)), (0), (by first | rfl | (simp; done) | (simp [*]; done)), H', ⟨Nat.le_refl _⟩, ⟨by first | exact Kd.R_nil _ _ _ _ _ | exact Kd.N_nil _ _ _ _ _ | exact Kd.V_nil _ _ _ _ _ | exact Kd.Q_nil _ _ _ _ _ | exact Kd.S_nil _ _ _ _ _⟩, ⟨by (with_reducible repeat (first | apply Kd.R_alloc | apply Kd.R_drewN | apply Kd.R_drew)); exact Kd.R_mono (Kd.R_far (p := ⟨gb228, 1, none⟩) (Kd.R_far (p := ⟨gb228, 0, none⟩) (Kd.R_types HO224.out BK228.out (by decide)) (fun _ hk => hk.2) (.slice Ao10 t222.length co10)) (fun _ hk => hk.2) (.slice Ao12 t225.length co12)) (fun _ hk => trivial)⟩, ⟨by (with_reducible repeat (first | apply Kd.R_alloc | apply Kd.R_drewN | apply Kd.R_drew)); exact Kd.R_mono (Kd.R_far (p := ⟨gb228, 1, none⟩) (Kd.R_far (p := ⟨gb228, 0, none⟩) (Kd.R_types HO227.out BK228.out (by decide)) (fun _ hk => hk.2) (.slice Ao10 t222.length co10)) (fun _ hk => hk.2) (.slice Ao12 t225.length co12)) (fun _ hk => (by simp [Value.ownBlock]))⟩, ⟨by (with_reducible repeat (first | refine blk_drewN ?_ _ | refine blk_drew ?_ | refine blk_alloc ?_ _)); refine blk_put (cs := #[.slice Ao10 t222.length co10, .slice none 0 0]) ?_ 1 _ rfl; (with_reducible repeat (first | refine blk_drewN ?_ _ | refine blk_drew ?_ | refine blk_alloc ?_ _)); refine blk_put (cs := #[.slice none 0 0, .slice none 0 0]) ?_ 0 _ rfl; (with_reducible repeat (first | refine blk_drewN ?_ _ | refine blk_drew ?_ | refine blk_alloc ?_ _)); exact BK228.out⟩, ⟨by repeat (first | (with_reducible first | exact HB.out | apply below_alloc | apply pw_below_drewN | apply below_drew1 | refine below_set ?_ GE228.out) | exact HB.out)⟩⟩
  case round =>
   clear H'
   try clear c1
   try clear c2
   try clear p2
   try clear c5
   try clear c6
   try clear hcz11_0
   try clear hcz11_1
   try clear hfz11_0
   try clear hfz11_1
   obtain ⟨x8_1, x10_1, rfl, HA, HK1, HO_8, HO_229000, HO_229001, BK228, HB⟩ := hrel
   cases gk with
   | zero => exact absurd HA.out (by simp [mosaicref13_Known.l0])
   | succ k1 =>
    have H := HA.out
    clear HA
    simp only [mosaicref13_Known.l0] at H
    by_cases c13 : x10_1 < a0
    ·
     rw [if_pos c13] at H
     have c13b0 : decide (x10_1 < a0) = true := decide_eq_true c13
     clear c13
     replace H := Option.bind_eq_some_iff.mp H
     obtain ⟨t229, A140, H⟩ := H
     replace H : (if t229 = true then (if x8_1.length < 17592186044416 then (mosaicref13_Known.l0 k1 a0 (x8_1 ++ [x10_1]) (wrap64 (x10_1 + 1)) t222 t225) else (none)) else (mosaicref13_Known.l0 k1 a0 x8_1 (wrap64 (x10_1 + 1)) t222 t225)) = some (r1, r2) := H
     have A14 := Aside0.mk A140
     clear A140
     by_cases c15 : t229 = true
     ·
      subst c15
      have H1 : (if x8_1.length < 17592186044416 then (mosaicref13_Known.l0 k1 a0 (x8_1 ++ [x10_1]) (wrap64 (x10_1 + 1)) t222 t225) else (none)) = some (r1, r2) := by rw [if_pos rfl] at H; exact H
      clear H
      have H := H1
      clear H1
      by_cases c16 : x8_1.length < 17592186044416
      ·
       rw [if_pos c16] at H
       have LMc16 := Aside0.mk c16
       clear c16
       obtain ⟨y230, hy230⟩ : ∃ y_ : List Int, y_ = (x8_1 ++ [x10_1]) := ⟨_, rfl⟩
       replace H : (mosaicref13_Known.l0 k1 a0 y230 (wrap64 (x10_1 + 1)) t222 t225) = some (r1, r2) := by first | (rw [hy230]; with_reducible exact H) | (have H2_ := (Option.bind_some _ _).symm.trans H; rw [hy230]; with_reducible exact H2_) | (have H2_ := (Option.bind_some _ _).symm.trans H; with_reducible exact H2_) | with_reducible exact H | (rw [hy230]; exact H) | exact H
       have Ny230 := Aside0.mk hy230
       clear hy230
       have H' := Aside0.mk H
       clear H
       have hcz17_0 : wr.cell? ⟨gb228, 0, none⟩ = some (.slice Ao10 t222.length co10) := (blk_cell BK228.out 0).trans rfl
       have hcz17_1 : wr.cell? ⟨gb228, 1, none⟩ = some (.slice Ao12 t225.length co12) := (blk_cell BK228.out 1).trans rfl
       have hfz17_0 := blk_frozen BK228.out 0
       have hfz17_1 := blk_frozen BK228.out 1
       go_wp2_with (first | ((with_reducible refine gate_callee (f := 21) rfl ?_); refine goesL_ (some 28) rfl rfl Try.func21 (by kernel_rfl) rfl #[.slice Ao12 t225.length co12, .int .i64 x10_1] rfl (by (try simp only [List.map_toArray, List.map_cons, List.map_nil]); first | done | rfl | (simp only [List.length_drop, List.length_take]; rfl)) ?_; (with_reducible refine (mosaicref09_Has.calls k1 _ _ t225 x10_1 true _ ?side1 ?side2 A14.out).mono ?_); (case side1 => repeat (first | exact (Kd.R_reads' HO_229001.out).2.2 | (with_reducible refine Kd.C_alloc ?_ _) | (with_reducible refine Kd.C_drewN ?_ _) | (with_reducible refine Kd.C_drew ?_))); (case side2 => exact (Kd.R_reads' HO_229001.out).2.1); rintro e w' ⟨rfl, ⟨nd, rfl⟩⟩; refine ⟨_, rfl, ?_⟩) | ((with_reducible refine gate_builtin (b := .append) (xs := #[.tmp 29, .tmp 31]) rfl ?_); at_builtin; refine Kd.R_append (Kd.int .i64) (w0 := w) w.heap.size rfl (.tmp 29) (.tmp 31) 23 3 (.int .i64 0) 8 rfl Try.underlying23 info3 rfl (by decide) (by omega) u8 x8_1 x10_1 [.int .i64 x10_1] (fun k_ => some k_ ≠ (.slice Ao12 t225.length co12 : Value).ownBlock) (fun _ => False) rfl rfl ?aP (fun _ hk => hk.elim) ?aF ?aO ?aB ?aS ?aL ?_; (case aP => exact rfl); (case aB => exact (by repeat (first | (with_reducible first | exact HB.out | apply below_alloc | apply pw_below_drewN | apply below_drew1 | refine below_set ?_ GE228.out) | exact HB.out))); (case aF => exact (fun k_ hk => Kd.fresh' (Kd.R_lt (by (with_reducible repeat (first | apply Kd.R_alloc | apply Kd.R_drewN | apply Kd.R_drew)); exact HO_229001.out)) k_ hk)); (case aO => exact (by (with_reducible repeat (first | apply Kd.R_alloc | apply Kd.R_drewN | apply Kd.R_drew)); exact HO_8.out)); (case aS => exact (below_size (by repeat (first | (with_reducible first | exact HB.out | apply below_alloc | apply pw_below_drewN | apply below_drew1 | refine below_set ?_ GE228.out) | exact HB.out)))); (case aL => have := LMc16.out; omega); intro v231 w18 ho hb hg hat; rw [← Ny230.out] at ho; have n0_ := Aside0.mk (Kd.R_over' (by (with_reducible repeat (first | apply Kd.R_alloc | apply Kd.R_drewN | apply Kd.R_drew)); exact HO_229000.out) (Kd.R_typed (by (with_reducible repeat (first | apply Kd.R_alloc | apply Kd.R_drewN | apply Kd.R_drew)); exact HO_8.out)) (by decide) hg); have n1_ := Aside0.mk (Kd.R_after (ok := (fun _ => True)) (by (with_reducible repeat (first | apply Kd.R_alloc | apply Kd.R_drewN | apply Kd.R_drew)); exact Kd.R_mono HO_229001.out (fun _ hk => ⟨trivial, hk⟩)) hg hat); have n2_ := Aside0.mk (blk_grown (g := gb228) (o := .cells #[.slice Ao10 t222.length co10, .slice Ao12 t225.length co12] 87 (0, 0)) (by (with_reducible repeat (first | refine blk_drewN ?_ _ | refine blk_drew ?_ | refine blk_alloc ?_ _)); exact BK228.out) hg (Kd.R_ne HO_8.out BK228.out (by decide))); have n3_ := Aside0.mk (hb); have n4_ := Aside0.mk (ho); clear HO_229000; clear HO_229001; clear BK228; clear HB; clear HO_8; have HO_229000 := n0_; have HO_229001 := n1_; have BK228 := n2_; have HB := n3_; have HO232 := n4_; clear n0_ n1_ n2_ n3_ n4_; clear ho hb hg hat))
       go_roundg k1
       case measure => have := HK1.out; omega
       case rel => exact ⟨(y230), (wrap64 (x10_1 + 1)), (by first | rfl | (simp; done) | (simp [*]; done)), H', ⟨by have := HK1.out; omega⟩, ⟨by (with_reducible repeat (first | apply Kd.R_alloc | apply Kd.R_drewN | apply Kd.R_drew)); exact HO232.out⟩, ⟨by (with_reducible repeat (first | apply Kd.R_alloc | apply Kd.R_drewN | apply Kd.R_drew)); exact HO_229000.out⟩, ⟨by (with_reducible repeat (first | apply Kd.R_alloc | apply Kd.R_drewN | apply Kd.R_drew)); exact Kd.R_mono HO_229001.out (fun _ hk => hk.2)⟩, ⟨by (with_reducible repeat (first | refine blk_drewN ?_ _ | refine blk_drew ?_ | refine blk_alloc ?_ _)); exact BK228.out⟩, ⟨by repeat (first | (with_reducible first | exact HB.out | apply below_alloc | apply pw_below_drewN | apply below_drew1 | refine below_set ?_ GE228.out) | exact HB.out)⟩⟩
      ·
       rw [if_neg c16] at H
       exact absurd H (by simp)
     ·
      replace c15 := Bool.eq_false_iff.mpr c15
      subst c15
      have H1 : (mosaicref13_Known.l0 k1 a0 x8_1 (wrap64 (x10_1 + 1)) t222 t225) = some (r1, r2) := by rw [if_neg (show ¬ (false = true) by decide)] at H; exact H
      clear H
      have H := H1
      clear H1
      have H' := Aside0.mk H
      clear H
      have hcz19_0 : wr.cell? ⟨gb228, 0, none⟩ = some (.slice Ao10 t222.length co10) := (blk_cell BK228.out 0).trans rfl
      have hcz19_1 : wr.cell? ⟨gb228, 1, none⟩ = some (.slice Ao12 t225.length co12) := (blk_cell BK228.out 1).trans rfl
      have hfz19_0 := blk_frozen BK228.out 0
      have hfz19_1 := blk_frozen BK228.out 1
      go_wp2_with (first | ((with_reducible refine gate_callee (f := 21) rfl ?_); refine goesL_ (some 28) rfl rfl Try.func21 (by kernel_rfl) rfl #[.slice Ao12 t225.length co12, .int .i64 x10_1] rfl (by (try simp only [List.map_toArray, List.map_cons, List.map_nil]); first | done | rfl | (simp only [List.length_drop, List.length_take]; rfl)) ?_; (with_reducible refine (mosaicref09_Has.calls k1 _ _ t225 x10_1 false _ ?side1 ?side2 A14.out).mono ?_); (case side1 => repeat (first | exact (Kd.R_reads' HO_229001.out).2.2 | (with_reducible refine Kd.C_alloc ?_ _) | (with_reducible refine Kd.C_drewN ?_ _) | (with_reducible refine Kd.C_drew ?_))); (case side2 => exact (Kd.R_reads' HO_229001.out).2.1); rintro e w' ⟨rfl, ⟨nd, rfl⟩⟩; refine ⟨_, rfl, ?_⟩))
      go_roundg k1
      case measure => have := HK1.out; omega
      case rel => exact ⟨(x8_1), (wrap64 (x10_1 + 1)), (by first | rfl | (simp; done) | (simp [*]; done)), H', ⟨by have := HK1.out; omega⟩, ⟨by (with_reducible repeat (first | apply Kd.R_alloc | apply Kd.R_drewN | apply Kd.R_drew)); exact HO_8.out⟩, ⟨by (with_reducible repeat (first | apply Kd.R_alloc | apply Kd.R_drewN | apply Kd.R_drew)); exact HO_229000.out⟩, ⟨by (with_reducible repeat (first | apply Kd.R_alloc | apply Kd.R_drewN | apply Kd.R_drew)); exact HO_229001.out⟩, ⟨by (with_reducible repeat (first | refine blk_drewN ?_ _ | refine blk_drew ?_ | refine blk_alloc ?_ _)); exact BK228.out⟩, ⟨by repeat (first | (with_reducible first | exact HB.out | apply below_alloc | apply pw_below_drewN | apply below_drew1 | refine below_set ?_ GE228.out) | exact HB.out)⟩⟩
    ·
     rw [if_neg c13] at H
     have c13b0 : decide (x10_1 < a0) = false := decide_eq_false c13
     clear c13
     simp only [Option.some.injEq, Prod.mk.injEq] at H
     obtain ⟨rfl, rfl⟩ := H
     go_wp2
     go_ret2
     exact ⟨_, by first | rfl | (simp [errW_none, errW_some] <;> rfl) | (simp [*, errW_none, errW_some] <;> rfl), by (with_reducible repeat (first | apply Kd.R_alloc | apply Kd.R_drewN | apply Kd.R_drew)); exact Kd.R_mono HO_8.out (fun _ hk => trivial), by repeat (first | (with_reducible first | exact HB.out | apply below_alloc | apply pw_below_drewN | apply below_drew1 | refine below_set ?_ GE228.out) | exact HB.out)⟩
 ·
  replace c5 := Bool.eq_false_iff.mpr c5
  subst c5
  have H1 : (some (([] : List Int), 1)) = some (r1, r2) := by rw [if_neg (show ¬ (false = true) by decide)] at H; exact H
  clear H
  have H := H1
  clear H1
  simp only [Option.some.injEq, Prod.mk.injEq] at H
  obtain ⟨rfl, rfl⟩ := H
  go_enter Try.func24, Try.ntmps24
  go_wp2_with (first | ((with_reducible refine gate_callee (f := 63) rfl ?_); refine goesL_ (some 14) rfl rfl Try.func63 (by kernel_rfl) rfl #[.int .i64 a0, .slice A1 l1.length c1, .slice A2 l2.length c2] rfl (by (try simp only [List.map_toArray, List.map_cons, List.map_nil]); first | done | rfl | (simp only [List.length_drop, List.length_take]; rfl)) ?_; (with_reducible refine (mosaicref13_May.calls k a0 _ _ l1 (fun k_ => k_ < w.heap.size) _ _ l2 false _ ?side1 ?side2 ?side3 A4.out).mono ?_); (case side1 => repeat (first | exact HR1.out | (with_reducible refine Kd.C_alloc ?_ _) | (with_reducible refine Kd.C_drewN ?_ _) | (with_reducible refine Kd.C_drew ?_))); (case side2 => exact HC1.out); (case side3 => exact Kd.V_mk HC2.out (Kd.F_below (Kd.C_F (Kd.heap_int .i64) HR2.out) (by repeat (first | (with_reducible first | exact HB.out | apply below_alloc | apply pw_below_drewN | apply below_drew1) | exact HB.out)))); rintro e w20 ⟨rfl, hb⟩; refine ⟨_, rfl, ?_⟩; have n0_ := Aside0.mk (below_step (by repeat (first | (with_reducible first | exact HB.out | apply below_alloc | apply pw_below_drewN | apply below_drew1) | exact HB.out)) hb); clear HB; have HB := n0_; clear n0_; (try clear hb); (try clear hb2); (try clear hk); (try clear hi)))
  go_ret2
  exact ⟨_, by first | rfl | (simp [errW_none, errW_some] <;> rfl) | (simp [*, errW_none, errW_some] <;> rfl), by first | exact Kd.R_nil _ _ _ _ _ | exact Kd.N_nil _ _ _ _ _ | exact Kd.V_nil _ _ _ _ _ | exact Kd.Q_nil _ _ _ _ _ | exact Kd.S_nil _ _ _ _ _, by repeat (first | (with_reducible first | exact HB.out | apply below_alloc | apply pw_below_drewN | apply below_drew1) | exact HB.out)⟩

end Go.Proofs.Ytnchcapdfmccjaa.Print
/-! #### Pr25 -/
-- By the kit's print, called by a program of this session with functions that are proved by hand.
namespace Go.Proofs.Ytnchcapdfmccjaa.Print
open Go.RowKit Go.Proofs.YtnchcapdfmccjaaW.PrintWords Go.Proofs.YtnchcapdfmccjaaW.PrintLast Go.Proofs.YtnchcapdfmccjaaW.PrintMore
attribute [local go_sem] max2_int min2_int max_two min_two max_three min_three max_four min_four
set_option linter.unusedVariables false
set_option linter.unusedSimpArgs false

/-! ### peel_Ripe: function 25 -/
def peel_Ripe.l0 : Nat → List Bool → List Int → List (List Int) → Int → Int → Option (List Int × Int)
 | 0, _, _, _, _, _ => none
 | k + 1, x8, x9, x22, x23, x24 => if x24 < x23 then (if 0 ≤ x24 then (if x24 < (x22.length : Int) then ((peel_gap.f k (rd_L3 x22 x24) x8).bind fun bt238 => (if bt238.2 = true then (if x9.length < 17592186044416 then (peel_Ripe.l0 k x8 (x9 ++ [x24]) x22 x23 (wrap64 (x24 + 1))) else (none)) else (peel_Ripe.l0 k x8 x9 x22 x23 (wrap64 (x24 + 1))))) else (none)) else (none)) else (some (x9, 0))
def peel_Ripe.f (k : Nat) (a0 : Int) (l1 : List (List Int)) (l2 : List Int) : Option (List Int × Int) := (peel_may.f a0 l1 l2).bind fun t233 => (if t233 = true then ((peel_marks.f k a0 l2).bind fun t234 => (peel_Ripe.l0 k t234 ([] : List Int) l1 (l1.length : Int) 0)) else (some (([] : List Int), 1)))
theorem peel_Ripe.mono_l : ∀ k, (∀ y0 y1 y2 y3 y4, LeO (peel_Ripe.l0 k y0 y1 y2 y3 y4) (peel_Ripe.l0 (k + 1) y0 y1 y2 y3 y4))
 | 0 => fun _ _ _ _ _ r h => by simp [peel_Ripe.l0] at h
 | k + 1 => by
  have ih0 := peel_Ripe.mono_l k
  ·
   intro y0 y1 y2 y3 y4
   unfold peel_Ripe.l0
   repeat' first
   | (with_reducible exact ih0 _ _ _ _ _)
   | (with_reducible exact peel_gap.mono _ _ _)
   | (with_reducible exact peel_marks.mono _ _ _)
   | (with_reducible exact LeO.refl _)
   | (with_reducible exact LeO.none _)
   | (with_reducible refine LeO.ite ?_ ?_)
   | (with_reducible refine LeO.bind ?_ (fun _ => ?_))
   | exact ih0 _ _ _ _ _
   | exact peel_gap.mono _ _ _
   | exact peel_marks.mono _ _ _
   | exact LeO.none _
   | refine LeO.ite ?_ ?_
   | refine LeO.bind ?_ (fun _ => ?_)
theorem peel_Ripe.mono : ∀ a0 a1 a2 k, LeO (peel_Ripe.f k a0 a1 a2) (peel_Ripe.f (k + 1) a0 a1 a2) := by
 intro a0 a1 a2 k
 have ih0 := peel_Ripe.mono_l k
 unfold peel_Ripe.f
 repeat' first
   | (with_reducible exact ih0 _ _ _ _ _)
   | (with_reducible exact peel_gap.mono _ _ _)
   | (with_reducible exact peel_marks.mono _ _ _)
   | (with_reducible exact LeO.refl _)
   | (with_reducible exact LeO.none _)
   | (with_reducible refine LeO.ite ?_ ?_)
   | (with_reducible refine LeO.bind ?_ (fun _ => ?_))
   | exact ih0 _ _ _ _ _
   | exact peel_gap.mono _ _ _
   | exact peel_marks.mono _ _ _
   | exact LeO.none _
   | refine LeO.ite ?_ ?_
   | refine LeO.bind ?_ (fun _ => ?_)
set_option maxHeartbeats 8000000 in
set_option maxRecDepth 100000 in
theorem peel_Ripe.calls (k : Nat) (a0 : Int) (A1 : Option Addr) (c1 : Nat) (l1 : List (List Int)) (A2 : Option Addr) (c2 : Nat) (l2 : List Int) (r1 : List Int) (r2 : Int) (w : World) (hr1 : Kd.C (Kd.slice 3 (Kd.int .i64)) w A1 l1.length l1) (hc1 : l1.length ≤ c1) (hr2 : Kd.C (Kd.int .i64) w A2 l2.length l2) (hc2 : l2.length ≤ c2) (h : peel_Ripe.f k a0 l1 l2 = some (r1, r2)) :
  Calls Try.prog 25 #[.int .i64 a0, .slice A1 l1.length c1, .slice A2 l2.length c2] w fun e w' => ∃ v0_ : Value, e = .returned (.tuple #[v0_, .int .i64 r2]) ∧ Kd.R (Kd.int .i64) 3 w' w.heap.size (fun _ => True) v0_ r1 ∧ Below w.heap.size w w' := by
 have HR1 := Aside0.mk hr1
 have HC1 := Aside0.mk hc1
 clear hr1 hc1
 have HR2 := Aside0.mk hr2
 have HC2 := Aside0.mk hc2
 clear hr2 hc2
 have HB := Aside0.mk (Below.refl w.heap.size w)
 have H : ((peel_may.f a0 l1 l2).bind fun t233 => (if t233 = true then ((peel_marks.f k a0 l2).bind fun t234 => (peel_Ripe.l0 k t234 ([] : List Int) l1 (l1.length : Int) 0)) else (some (([] : List Int), 1)))) = some (r1, r2) := h
 clear h
 replace H := Option.bind_eq_some_iff.mp H
 obtain ⟨t233, A40, H⟩ := H
 replace H : (if t233 = true then ((peel_marks.f k a0 l2).bind fun t234 => (peel_Ripe.l0 k t234 ([] : List Int) l1 (l1.length : Int) 0)) else (some (([] : List Int), 1))) = some (r1, r2) := H
 have A4 := Aside0.mk A40
 clear A40
 by_cases c5 : t233 = true
 ·
  subst c5
  have H1 : ((peel_marks.f k a0 l2).bind fun t234 => (peel_Ripe.l0 k t234 ([] : List Int) l1 (l1.length : Int) 0)) = some (r1, r2) := by rw [if_pos rfl] at H; exact H
  clear H
  have H := H1
  clear H1
  replace H := Option.bind_eq_some_iff.mp H
  obtain ⟨t234, A60, H⟩ := H
  replace H : (peel_Ripe.l0 k t234 ([] : List Int) l1 (l1.length : Int) 0) = some (r1, r2) := H
  have A6 := Aside0.mk A60
  clear A60
  have H' := Aside0.mk H
  clear H
  go_enter Try.func25, Try.ntmps25
  go_wp2_with (first | ((with_reducible refine gate_callee (f := 59) rfl ?_); refine goesL_ (some 17) rfl rfl Try.func59 (by kernel_rfl) rfl #[.int .i64 a0, .slice A1 l1.length c1, .slice A2 l2.length c2] rfl (by (try simp only [List.map_toArray, List.map_cons, List.map_nil]); first | done | rfl | (simp only [List.length_drop, List.length_take]; rfl)) ?_; (with_reducible refine (peel_may.calls a0 _ _ l1 (fun k_ => k_ < w.heap.size) _ _ l2 true _ ?side1 ?side2 ?side3 A4.out).mono ?_); (case side1 => repeat (first | exact HR1.out | (with_reducible refine Kd.C_alloc ?_ _) | (with_reducible refine Kd.C_drewN ?_ _) | (with_reducible refine Kd.C_drew ?_))); (case side2 => exact HC1.out); (case side3 => exact Kd.V_mk HC2.out (Kd.F_below (Kd.C_F (Kd.heap_int .i64) HR2.out) (by repeat (first | (with_reducible first | exact HB.out | apply below_alloc | apply pw_below_drewN | apply below_drew1) | exact HB.out)))); rintro e w7 ⟨rfl, hb⟩; refine ⟨_, rfl, ?_⟩; have n0_ := Aside0.mk (below_step (by repeat (first | (with_reducible first | exact HB.out | apply below_alloc | apply pw_below_drewN | apply below_drew1) | exact HB.out)) hb); clear HB; have HB := n0_; clear n0_; (try clear hb); (try clear hb2); (try clear hk); (try clear hi)) | ((with_reducible refine gate_callee (f := 60) rfl ?_); refine goesL_ (some 21) rfl rfl Try.func60 (by kernel_rfl) rfl #[.int .i64 a0, .slice A2 l2.length c2] rfl (by (try simp only [List.map_toArray, List.map_cons, List.map_nil]); first | done | rfl | (simp only [List.length_drop, List.length_take]; rfl)) ?_; (with_reducible refine (peel_marks.calls k a0 _ _ l2 t234 _ ?side1 ?side2 A6.out).mono ?_); (case side1 => repeat (first | exact (Kd.C_below HR2.out HB.out) | (with_reducible refine Kd.C_alloc ?_ _) | (with_reducible refine Kd.C_drewN ?_ _) | (with_reducible refine Kd.C_drew ?_))); (case side2 => exact HC2.out); rintro e w8 ⟨v235, rfl, ho0, hb⟩; refine ⟨_, rfl, ?_⟩; have n0_ := Aside0.mk (Kd.R_lower ho0 (below_size (by repeat (first | (with_reducible first | exact HB.out | apply below_alloc | apply pw_below_drewN | apply below_drew1) | exact HB.out)))); have n1_ := Aside0.mk (below_step (by repeat (first | (with_reducible first | exact HB.out | apply below_alloc | apply pw_below_drewN | apply below_drew1) | exact HB.out)) hb); clear HB; have HO236 := n0_; have HB := n1_; clear n0_ n1_; (try clear hb); (try clear hb2); (try clear hk); (try clear hi); (try clear ho0)))
  go_loopg [9, 24] k (fun kq v9 v24 w' => ∃ (x9_1 : List Int) (x24_1 : Int), v24 = .int .i64 x24_1 ∧ Aside0 (peel_Ripe.l0 kq t234 x9_1 l1 (l1.length : Int) x24_1 = some (r1, r2)) ∧ Aside0 (kq ≤ k) ∧ Aside0 (Kd.R Kd.bool 4 w' w.heap.size (fun _ => True) v235 t234) ∧ Aside0 (Kd.R (Kd.int .i64) 3 w' w.heap.size (fun _ => True) v9 x9_1) ∧ Aside0 (Below w.heap.size w w'))
  case atStart => exact ⟨(([] : List Int)), (0), (by first | rfl | (simp; done) | (simp [*]; done)), H', ⟨Nat.le_refl _⟩, ⟨by (with_reducible repeat (first | apply Kd.R_alloc | apply Kd.R_drewN | apply Kd.R_drew)); exact HO236.out⟩, ⟨by first | exact Kd.R_nil _ _ _ _ _ | exact Kd.N_nil _ _ _ _ _ | exact Kd.V_nil _ _ _ _ _ | exact Kd.Q_nil _ _ _ _ _ | exact Kd.S_nil _ _ _ _ _⟩, ⟨by repeat (first | (with_reducible first | exact HB.out | apply below_alloc | apply pw_below_drewN | apply below_drew1) | exact HB.out)⟩⟩
  case round =>
   clear H'
   try clear c1
   try clear c2
   try clear p2
   try clear c5
   try clear c6
   obtain ⟨x9_1, x24_1, rfl, HA, HK1, HO_8, HO_9, HB⟩ := hrel
   cases gk with
   | zero => exact absurd HA.out (by simp [peel_Ripe.l0])
   | succ k1 =>
    have H := HA.out
    clear HA
    simp only [peel_Ripe.l0] at H
    by_cases c9 : x24_1 < (l1.length : Int)
    ·
     rw [if_pos c9] at H
     have c9b0 : decide (x24_1 < (l1.length : Int)) = true := decide_eq_true c9
     clear c9
     by_cases c10 : 0 ≤ x24_1
     ·
      rw [if_pos c10] at H
      have c10b0 : decide (0 ≤ x24_1) = true := decide_eq_true c10
      clear c10
      by_cases c11 : x24_1 < (l1.length : Int)
      ·
       rw [if_pos c11] at H
       have c11b0 : decide (x24_1 < (l1.length : Int)) = true := decide_eq_true c11
       clear c11
       replace H := Option.bind_eq_some_iff.mp H
       obtain ⟨⟨t238, t239⟩, A120, H⟩ := H
       replace H : (if t239 = true then (if x9_1.length < 17592186044416 then (peel_Ripe.l0 k1 t234 (x9_1 ++ [x24_1]) l1 (l1.length : Int) (wrap64 (x24_1 + 1))) else (none)) else (peel_Ripe.l0 k1 t234 x9_1 l1 (l1.length : Int) (wrap64 (x24_1 + 1)))) = some (r1, r2) := H
       have A12 := Aside0.mk A120
       clear A120
       by_cases c13 : t239 = true
       ·
        subst c13
        have H1 : (if x9_1.length < 17592186044416 then (peel_Ripe.l0 k1 t234 (x9_1 ++ [x24_1]) l1 (l1.length : Int) (wrap64 (x24_1 + 1))) else (none)) = some (r1, r2) := by rw [if_pos rfl] at H; exact H
        clear H
        have H := H1
        clear H1
        by_cases c14 : x9_1.length < 17592186044416
        ·
         rw [if_pos c14] at H
         have LMc14 := Aside0.mk c14
         clear c14
         obtain ⟨y240, hy240⟩ : ∃ y_ : List Int, y_ = (x9_1 ++ [x24_1]) := ⟨_, rfl⟩
         replace H : (peel_Ripe.l0 k1 t234 y240 l1 (l1.length : Int) (wrap64 (x24_1 + 1))) = some (r1, r2) := by first | (rw [hy240]; with_reducible exact H) | (have H2_ := (Option.bind_some _ _).symm.trans H; rw [hy240]; with_reducible exact H2_) | (have H2_ := (Option.bind_some _ _).symm.trans H; with_reducible exact H2_) | with_reducible exact H | (rw [hy240]; exact H) | exact H
         have Ny240 := Aside0.mk hy240
         clear hy240
         have H' := Aside0.mk H
         clear H
         have p237 : 0 ≤ (x24_1 : Int) := of_decide_eq_true (by first | (with_reducible assumption) | assumption)
         have q237 : x24_1 < (l1.length : Int) := of_decide_eq_true (by first | (with_reducible assumption) | assumption)
         obtain ⟨ad237, A237_0, c237_0, e237, hx237_0, hl237_0, hi237_0⟩ := at_L3 HR1.out x24_1 p237 q237
         cases e237
         replace hx237_0 := (HB.out.cell (World.block_lt_of_cell? w _ hx237_0)).trans hx237_0
         have HR237_0 := Aside0.mk hi237_0
         have HC237_0 := Aside0.mk hl237_0
         clear hi237_0 hl237_0
         replace p237 := eq_true p237
         replace q237 := eq_true q237
         obtain ⟨Ao15, co15, eo15⟩ := Kd.R_slice HO_8.out
         subst eo15
         go_wp2_with (first | ((with_reducible refine gate_callee (f := 65) rfl ?_); refine goesL_ (some 32) rfl rfl Try.func65 (by kernel_rfl) rfl #[.slice A237_0 (rd_L3 l1 x24_1).length c237_0, .slice Ao15 t234.length co15] rfl (by (try simp only [List.map_toArray, List.map_cons, List.map_nil]); first | done | rfl | (simp only [List.length_drop, List.length_take]; rfl)) ?_; (with_reducible refine (peel_gap.calls k1 _ _ (rd_L3 l1 x24_1) _ _ t234 t238 true _ ?side1 ?side2 ?side3 ?side4 A12.out).mono ?_); (case side1 => repeat (first | exact (Kd.C_below HR237_0.out HB.out) | (with_reducible refine Kd.C_alloc ?_ _) | (with_reducible refine Kd.C_drewN ?_ _) | (with_reducible refine Kd.C_drew ?_))); (case side2 => exact HC237_0.out); (case side3 => repeat (first | exact (Kd.R_reads' HO_8.out).2.2 | (with_reducible refine Kd.C_alloc ?_ _) | (with_reducible refine Kd.C_drewN ?_ _) | (with_reducible refine Kd.C_drew ?_))); (case side4 => exact (Kd.R_reads' HO_8.out).2.1); rintro e w' ⟨rfl, ⟨nd, rfl⟩⟩; refine ⟨_, rfl, ?_⟩) | ((with_reducible refine gate_builtin (b := .append) (xs := #[.tmp 36, .tmp 38]) rfl ?_); at_builtin; refine Kd.R_append (Kd.int .i64) (w0 := w) w.heap.size rfl (.tmp 36) (.tmp 38) 23 3 (.int .i64 0) 8 rfl Try.underlying23 info3 rfl (by decide) (by omega) u9 x9_1 x24_1 [.int .i64 x24_1] (fun _ => True) (fun _ => False) rfl rfl ?aP (fun _ hk => hk.elim) ?aF ?aO ?aB ?aS ?aL ?_; (case aP => exact rfl); (case aB => exact (by repeat (first | (with_reducible first | exact HB.out | apply below_alloc | apply pw_below_drewN | apply below_drew1) | exact HB.out))); (case aF => exact (fun _ _ => trivial)); (case aO => exact (by (with_reducible repeat (first | apply Kd.R_alloc | apply Kd.R_drewN | apply Kd.R_drew)); exact HO_9.out)); (case aS => exact (below_size (by repeat (first | (with_reducible first | exact HB.out | apply below_alloc | apply pw_below_drewN | apply below_drew1) | exact HB.out)))); (case aL => have := LMc14.out; omega); intro v241 w16 ho hb hg hat; rw [← Ny240.out] at ho; have n0_ := Aside0.mk (Kd.R_over' (by (with_reducible repeat (first | apply Kd.R_alloc | apply Kd.R_drewN | apply Kd.R_drew)); exact HO_8.out) (Kd.R_typed (by (with_reducible repeat (first | apply Kd.R_alloc | apply Kd.R_drewN | apply Kd.R_drew)); exact HO_9.out)) (by decide) hg); have n1_ := Aside0.mk (hb); have n2_ := Aside0.mk (ho); clear HO_8; clear HB; clear HO_9; have HO_8 := n0_; have HB := n1_; have HO242 := n2_; clear n0_ n1_ n2_; clear ho hb hg hat))
         go_roundg k1
         case measure => have := HK1.out; omega
         case rel => exact ⟨(y240), (wrap64 (x24_1 + 1)), (by first | rfl | (simp; done) | (simp [*]; done)), H', ⟨by have := HK1.out; omega⟩, ⟨by (with_reducible repeat (first | apply Kd.R_alloc | apply Kd.R_drewN | apply Kd.R_drew)); exact HO_8.out⟩, ⟨by (with_reducible repeat (first | apply Kd.R_alloc | apply Kd.R_drewN | apply Kd.R_drew)); exact HO242.out⟩, ⟨by repeat (first | (with_reducible first | exact HB.out | apply below_alloc | apply pw_below_drewN | apply below_drew1) | exact HB.out)⟩⟩
        ·
         rw [if_neg c14] at H
         exact absurd H (by simp)
       ·
        replace c13 := Bool.eq_false_iff.mpr c13
        subst c13
        have H1 : (peel_Ripe.l0 k1 t234 x9_1 l1 (l1.length : Int) (wrap64 (x24_1 + 1))) = some (r1, r2) := by rw [if_neg (show ¬ (false = true) by decide)] at H; exact H
        clear H
        have H := H1
        clear H1
        have H' := Aside0.mk H
        clear H
        have p237 : 0 ≤ (x24_1 : Int) := of_decide_eq_true (by first | (with_reducible assumption) | assumption)
        have q237 : x24_1 < (l1.length : Int) := of_decide_eq_true (by first | (with_reducible assumption) | assumption)
        obtain ⟨ad237, A237_0, c237_0, e237, hx237_0, hl237_0, hi237_0⟩ := at_L3 HR1.out x24_1 p237 q237
        cases e237
        replace hx237_0 := (HB.out.cell (World.block_lt_of_cell? w _ hx237_0)).trans hx237_0
        have HR237_0 := Aside0.mk hi237_0
        have HC237_0 := Aside0.mk hl237_0
        clear hi237_0 hl237_0
        replace p237 := eq_true p237
        replace q237 := eq_true q237
        obtain ⟨Ao17, co17, eo17⟩ := Kd.R_slice HO_8.out
        subst eo17
        go_wp2_with (first | ((with_reducible refine gate_callee (f := 65) rfl ?_); refine goesL_ (some 32) rfl rfl Try.func65 (by kernel_rfl) rfl #[.slice A237_0 (rd_L3 l1 x24_1).length c237_0, .slice Ao17 t234.length co17] rfl (by (try simp only [List.map_toArray, List.map_cons, List.map_nil]); first | done | rfl | (simp only [List.length_drop, List.length_take]; rfl)) ?_; (with_reducible refine (peel_gap.calls k1 _ _ (rd_L3 l1 x24_1) _ _ t234 t238 false _ ?side1 ?side2 ?side3 ?side4 A12.out).mono ?_); (case side1 => repeat (first | exact (Kd.C_below HR237_0.out HB.out) | (with_reducible refine Kd.C_alloc ?_ _) | (with_reducible refine Kd.C_drewN ?_ _) | (with_reducible refine Kd.C_drew ?_))); (case side2 => exact HC237_0.out); (case side3 => repeat (first | exact (Kd.R_reads' HO_8.out).2.2 | (with_reducible refine Kd.C_alloc ?_ _) | (with_reducible refine Kd.C_drewN ?_ _) | (with_reducible refine Kd.C_drew ?_))); (case side4 => exact (Kd.R_reads' HO_8.out).2.1); rintro e w' ⟨rfl, ⟨nd, rfl⟩⟩; refine ⟨_, rfl, ?_⟩))
        go_roundg k1
        case measure => have := HK1.out; omega
        case rel => exact ⟨(x9_1), (wrap64 (x24_1 + 1)), (by first | rfl | (simp; done) | (simp [*]; done)), H', ⟨by have := HK1.out; omega⟩, ⟨by (with_reducible repeat (first | apply Kd.R_alloc | apply Kd.R_drewN | apply Kd.R_drew)); exact HO_8.out⟩, ⟨by (with_reducible repeat (first | apply Kd.R_alloc | apply Kd.R_drewN | apply Kd.R_drew)); exact HO_9.out⟩, ⟨by repeat (first | (with_reducible first | exact HB.out | apply below_alloc | apply pw_below_drewN | apply below_drew1) | exact HB.out)⟩⟩
      ·
       rw [if_neg c11] at H
       exact absurd H (by simp)
     ·
      rw [if_neg c10] at H
      exact absurd H (by simp)
    ·
     rw [if_neg c9] at H
     have c9b0 : decide (x24_1 < (l1.length : Int)) = false := decide_eq_false c9
     clear c9
     simp only [Option.some.injEq, Prod.mk.injEq] at H
     obtain ⟨rfl, rfl⟩ := H
     go_wp2
     go_ret2
     exact ⟨_, by first | rfl | (simp [errW_none, errW_some] <;> rfl) | (simp [*, errW_none, errW_some] <;> rfl), by (with_reducible repeat (first | apply Kd.R_alloc | apply Kd.R_drewN | apply Kd.R_drew)); exact HO_9.out, by repeat (first | (with_reducible first | exact HB.out | apply below_alloc | apply pw_below_drewN | apply below_drew1) | exact HB.out)⟩
 ·
  replace c5 := Bool.eq_false_iff.mpr c5
  subst c5
  have H1 : (some (([] : List Int), 1)) = some (r1, r2) := by rw [if_neg (show ¬ (false = true) by decide)] at H; exact H
  clear H
  have H := H1
  clear H1
  simp only [Option.some.injEq, Prod.mk.injEq] at H
  obtain ⟨rfl, rfl⟩ := H
  go_enter Try.func25, Try.ntmps25
  go_wp2_with (first | ((with_reducible refine gate_callee (f := 59) rfl ?_); refine goesL_ (some 17) rfl rfl Try.func59 (by kernel_rfl) rfl #[.int .i64 a0, .slice A1 l1.length c1, .slice A2 l2.length c2] rfl (by (try simp only [List.map_toArray, List.map_cons, List.map_nil]); first | done | rfl | (simp only [List.length_drop, List.length_take]; rfl)) ?_; (with_reducible refine (peel_may.calls a0 _ _ l1 (fun k_ => k_ < w.heap.size) _ _ l2 false _ ?side1 ?side2 ?side3 A4.out).mono ?_); (case side1 => repeat (first | exact HR1.out | (with_reducible refine Kd.C_alloc ?_ _) | (with_reducible refine Kd.C_drewN ?_ _) | (with_reducible refine Kd.C_drew ?_))); (case side2 => exact HC1.out); (case side3 => exact Kd.V_mk HC2.out (Kd.F_below (Kd.C_F (Kd.heap_int .i64) HR2.out) (by repeat (first | (with_reducible first | exact HB.out | apply below_alloc | apply pw_below_drewN | apply below_drew1) | exact HB.out)))); rintro e w18 ⟨rfl, hb⟩; refine ⟨_, rfl, ?_⟩; have n0_ := Aside0.mk (below_step (by repeat (first | (with_reducible first | exact HB.out | apply below_alloc | apply pw_below_drewN | apply below_drew1) | exact HB.out)) hb); clear HB; have HB := n0_; clear n0_; (try clear hb); (try clear hb2); (try clear hk); (try clear hi)))
  go_ret2
  exact ⟨_, by first | rfl | (simp [errW_none, errW_some] <;> rfl) | (simp [*, errW_none, errW_some] <;> rfl), by first | exact Kd.R_nil _ _ _ _ _ | exact Kd.N_nil _ _ _ _ _ | exact Kd.V_nil _ _ _ _ _ | exact Kd.Q_nil _ _ _ _ _ | exact Kd.S_nil _ _ _ _ _, by repeat (first | (with_reducible first | exact HB.out | apply below_alloc | apply pw_below_drewN | apply below_drew1) | exact HB.out)⟩

end Go.Proofs.Ytnchcapdfmccjaa.Print
/-! #### Pr26 -/
-- By the kit's print, called by a program of this session with functions that are proved by hand.
namespace Go.Proofs.Ytnchcapdfmccjaa.Print
open Go.RowKit Go.Proofs.YtnchcapdfmccjaaW.PrintWords Go.Proofs.YtnchcapdfmccjaaW.PrintLast Go.Proofs.YtnchcapdfmccjaaW.PrintMore
attribute [local go_sem] max2_int min2_int max_two min_two max_three min_three max_four min_four
set_option linter.unusedVariables false
set_option linter.unusedSimpArgs false

/-! ### mosaicref13_Ripe: function 26 -/
def mosaicref13_Ripe.l0 : Nat → List (List Int) → List Int → List Int → Int → Option (List Int × Int)
 | 0, _, _, _, _ => none
 | k + 1, x1, x2, x8, x9 => if x9 < (x1.length : Int) then (if 0 ≤ x9 then ((mosaicref13_Rest.f k (rd_L3 x1 x9) x2).bind fun t245 => (if (t245.length : Int) = 1 then (if x8.length < 17592186044416 then (mosaicref13_Ripe.l0 k x1 x2 (x8 ++ [x9]) (wrap64 (x9 + 1))) else (none)) else (mosaicref13_Ripe.l0 k x1 x2 x8 (wrap64 (x9 + 1))))) else (none)) else (some (x8, 0))
def mosaicref13_Ripe.f (k : Nat) (a0 : Int) (l1 : List (List Int)) (l2 : List Int) : Option (List Int × Int) := (mosaicref13_May.f k a0 l1 l2).bind fun t243 => (if t243 = true then (mosaicref13_Ripe.l0 k l1 l2 ([] : List Int) 0) else (some (([] : List Int), 1)))
theorem mosaicref13_Ripe.mono_l : ∀ k, (∀ y0 y1 y2 y3, LeO (mosaicref13_Ripe.l0 k y0 y1 y2 y3) (mosaicref13_Ripe.l0 (k + 1) y0 y1 y2 y3))
 | 0 => fun _ _ _ _ r h => by simp [mosaicref13_Ripe.l0] at h
 | k + 1 => by
  have ih0 := mosaicref13_Ripe.mono_l k
  ·
   intro y0 y1 y2 y3
   unfold mosaicref13_Ripe.l0
   repeat' first
   | (with_reducible exact ih0 _ _ _ _)
   | (with_reducible exact mosaicref13_May.mono _ _ _ _)
   | (with_reducible exact mosaicref13_Rest.mono _ _ _)
   | (with_reducible exact LeO.refl _)
   | (with_reducible exact LeO.none _)
   | (with_reducible refine LeO.ite ?_ ?_)
   | (with_reducible refine LeO.bind ?_ (fun _ => ?_))
   | exact ih0 _ _ _ _
   | exact mosaicref13_May.mono _ _ _ _
   | exact mosaicref13_Rest.mono _ _ _
   | exact LeO.none _
   | refine LeO.ite ?_ ?_
   | refine LeO.bind ?_ (fun _ => ?_)
theorem mosaicref13_Ripe.mono : ∀ a0 a1 a2 k, LeO (mosaicref13_Ripe.f k a0 a1 a2) (mosaicref13_Ripe.f (k + 1) a0 a1 a2) := by
 intro a0 a1 a2 k
 have ih0 := mosaicref13_Ripe.mono_l k
 unfold mosaicref13_Ripe.f
 repeat' first
   | (with_reducible exact ih0 _ _ _ _)
   | (with_reducible exact mosaicref13_May.mono _ _ _ _)
   | (with_reducible exact mosaicref13_Rest.mono _ _ _)
   | (with_reducible exact LeO.refl _)
   | (with_reducible exact LeO.none _)
   | (with_reducible refine LeO.ite ?_ ?_)
   | (with_reducible refine LeO.bind ?_ (fun _ => ?_))
   | exact ih0 _ _ _ _
   | exact mosaicref13_May.mono _ _ _ _
   | exact mosaicref13_Rest.mono _ _ _
   | exact LeO.none _
   | refine LeO.ite ?_ ?_
   | refine LeO.bind ?_ (fun _ => ?_)
set_option maxHeartbeats 8000000 in
set_option maxRecDepth 100000 in
theorem mosaicref13_Ripe.calls (k : Nat) (a0 : Int) (A1 : Option Addr) (c1 : Nat) (l1 : List (List Int)) (A2 : Option Addr) (c2 : Nat) (l2 : List Int) (r1 : List Int) (r2 : Int) (w : World) (hr1 : Kd.C (Kd.slice 3 (Kd.int .i64)) w A1 l1.length l1) (hc1 : l1.length ≤ c1) (hr2 : Kd.C (Kd.int .i64) w A2 l2.length l2) (hc2 : l2.length ≤ c2) (h : mosaicref13_Ripe.f k a0 l1 l2 = some (r1, r2)) :
  Calls Try.prog 26 #[.int .i64 a0, .slice A1 l1.length c1, .slice A2 l2.length c2] w fun e w' => ∃ v0_ : Value, e = .returned (.tuple #[v0_, .int .i64 r2]) ∧ Kd.R (Kd.int .i64) 3 w' w.heap.size (fun _ => True) v0_ r1 ∧ Below w.heap.size w w' := by
 have HR1 := Aside0.mk hr1
 have HC1 := Aside0.mk hc1
 clear hr1 hc1
 have HR2 := Aside0.mk hr2
 have HC2 := Aside0.mk hc2
 clear hr2 hc2
 have HB := Aside0.mk (Below.refl w.heap.size w)
 have H : ((mosaicref13_May.f k a0 l1 l2).bind fun t243 => (if t243 = true then (mosaicref13_Ripe.l0 k l1 l2 ([] : List Int) 0) else (some (([] : List Int), 1)))) = some (r1, r2) := h
 clear h
 replace H := Option.bind_eq_some_iff.mp H
 obtain ⟨t243, A40, H⟩ := H
 replace H : (if t243 = true then (mosaicref13_Ripe.l0 k l1 l2 ([] : List Int) 0) else (some (([] : List Int), 1))) = some (r1, r2) := H
 have A4 := Aside0.mk A40
 clear A40
 by_cases c5 : t243 = true
 ·
  subst c5
  have H1 : (mosaicref13_Ripe.l0 k l1 l2 ([] : List Int) 0) = some (r1, r2) := by rw [if_pos rfl] at H; exact H
  clear H
  have H := H1
  clear H1
  have H' := Aside0.mk H
  clear H
  go_enter Try.func26, Try.ntmps26
  go_wp2_with (first | ((with_reducible refine gate_callee (f := 63) rfl ?_); refine goesL_ (some 13) rfl rfl Try.func63 (by kernel_rfl) rfl #[.int .i64 a0, .slice A1 l1.length c1, .slice A2 l2.length c2] rfl (by (try simp only [List.map_toArray, List.map_cons, List.map_nil]); first | done | rfl | (simp only [List.length_drop, List.length_take]; rfl)) ?_; (with_reducible refine (mosaicref13_May.calls k a0 _ _ l1 (fun k_ => k_ < w.heap.size) _ _ l2 true _ ?side1 ?side2 ?side3 A4.out).mono ?_); (case side1 => repeat (first | exact HR1.out | (with_reducible refine Kd.C_alloc ?_ _) | (with_reducible refine Kd.C_drewN ?_ _) | (with_reducible refine Kd.C_drew ?_))); (case side2 => exact HC1.out); (case side3 => exact Kd.V_mk HC2.out (Kd.F_below (Kd.C_F (Kd.heap_int .i64) HR2.out) (by repeat (first | (with_reducible first | exact HB.out | apply below_alloc | apply pw_below_drewN | apply below_drew1) | exact HB.out)))); rintro e w6 ⟨rfl, hb⟩; refine ⟨_, rfl, ?_⟩; have n0_ := Aside0.mk (below_step (by repeat (first | (with_reducible first | exact HB.out | apply below_alloc | apply pw_below_drewN | apply below_drew1) | exact HB.out)) hb); clear HB; have HB := n0_; clear n0_; (try clear hb); (try clear hb2); (try clear hk); (try clear hi)))
  go_loopg [8, 9] k (fun kq v8 v9 w' => ∃ (x8_1 : List Int) (x9_1 : Int), v9 = .int .i64 x9_1 ∧ Aside0 (mosaicref13_Ripe.l0 kq l1 l2 x8_1 x9_1 = some (r1, r2)) ∧ Aside0 (kq ≤ k) ∧ Aside0 (Kd.R (Kd.int .i64) 3 w' w.heap.size (fun _ => True) v8 x8_1) ∧ Aside0 (Below w.heap.size w w'))
  case atStart => exact ⟨(([] : List Int)), (0), (by first | rfl | (simp; done) | (simp [*]; done)), H', ⟨Nat.le_refl _⟩, ⟨by first | exact Kd.R_nil _ _ _ _ _ | exact Kd.N_nil _ _ _ _ _ | exact Kd.V_nil _ _ _ _ _ | exact Kd.Q_nil _ _ _ _ _ | exact Kd.S_nil _ _ _ _ _⟩, ⟨by repeat (first | (with_reducible first | exact HB.out | apply below_alloc | apply pw_below_drewN | apply below_drew1) | exact HB.out)⟩⟩
  case round =>
   clear H'
   try clear c1
   try clear c2
   try clear p2
   try clear c5
   try clear c6
   obtain ⟨x8_1, x9_1, rfl, HA, HK1, HO_8, HB⟩ := hrel
   cases gk with
   | zero => exact absurd HA.out (by simp [mosaicref13_Ripe.l0])
   | succ k1 =>
    have H := HA.out
    clear HA
    simp only [mosaicref13_Ripe.l0] at H
    by_cases c7 : x9_1 < (l1.length : Int)
    ·
     rw [if_pos c7] at H
     have c7b0 : decide (x9_1 < (l1.length : Int)) = true := decide_eq_true c7
     clear c7
     by_cases c8 : 0 ≤ x9_1
     ·
      rw [if_pos c8] at H
      have c8b0 : decide (0 ≤ x9_1) = true := decide_eq_true c8
      clear c8
      replace H := Option.bind_eq_some_iff.mp H
      obtain ⟨t245, A90, H⟩ := H
      replace H : (if (t245.length : Int) = 1 then (if x8_1.length < 17592186044416 then (mosaicref13_Ripe.l0 k1 l1 l2 (x8_1 ++ [x9_1]) (wrap64 (x9_1 + 1))) else (none)) else (mosaicref13_Ripe.l0 k1 l1 l2 x8_1 (wrap64 (x9_1 + 1)))) = some (r1, r2) := H
      have A9 := Aside0.mk A90
      clear A90
      by_cases c10 : (t245.length : Int) = 1
      ·
       rw [if_pos c10] at H
       have c10b0 : ((t245.length : Int) == 1) = true := beq_iff_eq.mpr c10
       have c10b1 : ((t245.length : Int) != 1) = false := bne_eq_false_iff_eq.mpr c10
       clear c10
       by_cases c11 : x8_1.length < 17592186044416
       ·
        rw [if_pos c11] at H
        have LMc11 := Aside0.mk c11
        clear c11
        obtain ⟨y248, hy248⟩ : ∃ y_ : List Int, y_ = (x8_1 ++ [x9_1]) := ⟨_, rfl⟩
        replace H : (mosaicref13_Ripe.l0 k1 l1 l2 y248 (wrap64 (x9_1 + 1))) = some (r1, r2) := by first | (rw [hy248]; with_reducible exact H) | (have H2_ := (Option.bind_some _ _).symm.trans H; rw [hy248]; with_reducible exact H2_) | (have H2_ := (Option.bind_some _ _).symm.trans H; with_reducible exact H2_) | with_reducible exact H | (rw [hy248]; exact H) | exact H
        have Ny248 := Aside0.mk hy248
        clear hy248
        have H' := Aside0.mk H
        clear H
        have p244 : 0 ≤ (x9_1 : Int) := of_decide_eq_true (by first | (with_reducible assumption) | assumption)
        have q244 : x9_1 < (l1.length : Int) := of_decide_eq_true (by first | (with_reducible assumption) | assumption)
        obtain ⟨ad244, A244_0, c244_0, e244, hx244_0, hl244_0, hi244_0⟩ := at_L3 HR1.out x9_1 p244 q244
        cases e244
        replace hx244_0 := (HB.out.cell (World.block_lt_of_cell? w _ hx244_0)).trans hx244_0
        have HR244_0 := Aside0.mk hi244_0
        have HC244_0 := Aside0.mk hl244_0
        clear hi244_0 hl244_0
        replace p244 := eq_true p244
        replace q244 := eq_true q244
        go_wp2_with (first | ((with_reducible refine gate_callee (f := 66) rfl ?_); refine goesL_ (some 26) rfl rfl Try.func66 (by kernel_rfl) rfl #[.slice A244_0 (rd_L3 l1 x9_1).length c244_0, .slice A2 l2.length c2] rfl (by (try simp only [List.map_toArray, List.map_cons, List.map_nil]); first | done | rfl | (simp only [List.length_drop, List.length_take]; rfl)) ?_; (with_reducible refine (mosaicref13_Rest.calls k1 _ _ (rd_L3 l1 x9_1) _ _ l2 t245 _ ?side1 ?side2 ?side3 ?side4 A9.out).mono ?_); (case side1 => repeat (first | exact (Kd.C_below HR244_0.out HB.out) | (with_reducible refine Kd.C_alloc ?_ _) | (with_reducible refine Kd.C_drewN ?_ _) | (with_reducible refine Kd.C_drew ?_))); (case side2 => exact HC244_0.out); (case side3 => repeat (first | exact (Kd.C_below HR2.out HB.out) | (with_reducible refine Kd.C_alloc ?_ _) | (with_reducible refine Kd.C_drewN ?_ _) | (with_reducible refine Kd.C_drew ?_))); (case side4 => exact HC2.out); rintro e w12 ⟨v246, rfl, ho0, hb⟩; refine ⟨_, rfl, ?_⟩; have n0_ := Aside0.mk (Kd.R_elder' (by (with_reducible repeat (first | apply Kd.R_alloc | apply Kd.R_drewN | apply Kd.R_drew)); exact HO_8.out) (Kd.R_base ho0) hb); have n1_ := Aside0.mk (Kd.R_lower (Kd.R_new' ho0 (Kd.R_lt (by (with_reducible repeat (first | apply Kd.R_alloc | apply Kd.R_drewN | apply Kd.R_drew)); exact HO_8.out))) (below_size (by repeat (first | (with_reducible first | exact HB.out | apply below_alloc | apply pw_below_drewN | apply below_drew1) | exact HB.out)))); have n2_ := Aside0.mk (below_step (by repeat (first | (with_reducible first | exact HB.out | apply below_alloc | apply pw_below_drewN | apply below_drew1) | exact HB.out)) hb); clear HO_8; clear HB; have HO_8 := n0_; have HO247 := n1_; have HB := n2_; clear n0_ n1_ n2_; (try clear hb); (try clear hb2); (try clear hk); (try clear hi); (try clear ho0); obtain ⟨Ao13, co13, eo13⟩ := Kd.R_slice HO247.out; subst eo13) | ((with_reducible refine gate_builtin (b := .append) (xs := #[.tmp 29, .tmp 31]) rfl ?_); at_builtin; refine Kd.R_append (Kd.int .i64) (w0 := w) w.heap.size rfl (.tmp 29) (.tmp 31) 23 3 (.int .i64 0) 8 rfl Try.underlying23 info3 rfl (by decide) (by omega) u8 x8_1 x9_1 [.int .i64 x9_1] (fun k_ => some k_ ≠ (.slice Ao13 t245.length co13 : Value).ownBlock) (fun _ => False) rfl rfl ?aP (fun _ hk => hk.elim) ?aF ?aO ?aB ?aS ?aL ?_; (case aP => exact rfl); (case aB => exact (by repeat (first | (with_reducible first | exact HB.out | apply below_alloc | apply pw_below_drewN | apply below_drew1) | exact HB.out))); (case aF => exact (fun k_ hk => Kd.fresh' (Kd.R_lt (by (with_reducible repeat (first | apply Kd.R_alloc | apply Kd.R_drewN | apply Kd.R_drew)); exact HO247.out)) k_ hk)); (case aO => exact (by (with_reducible repeat (first | apply Kd.R_alloc | apply Kd.R_drewN | apply Kd.R_drew)); exact Kd.R_mono HO_8.out (fun _ hk => hk.2))); (case aS => exact (below_size (by repeat (first | (with_reducible first | exact HB.out | apply below_alloc | apply pw_below_drewN | apply below_drew1) | exact HB.out)))); (case aL => have := LMc11.out; omega); intro v249 w14 ho hb hg hat; rw [← Ny248.out] at ho; have n0_ := Aside0.mk (Kd.R_after (ok := (fun _ => True)) (by (with_reducible repeat (first | apply Kd.R_alloc | apply Kd.R_drewN | apply Kd.R_drew)); exact HO247.out) hg hat); have n1_ := Aside0.mk (hb); have n2_ := Aside0.mk (ho); clear HO247; clear HB; clear HO_8; have HO247 := n0_; have HB := n1_; have HO250 := n2_; clear n0_ n1_ n2_; clear ho hb hg hat))
        go_roundg k1
        case measure => have := HK1.out; omega
        case rel => exact ⟨(y248), (wrap64 (x9_1 + 1)), (by first | rfl | (simp; done) | (simp [*]; done)), H', ⟨by have := HK1.out; omega⟩, ⟨by (with_reducible repeat (first | apply Kd.R_alloc | apply Kd.R_drewN | apply Kd.R_drew)); exact Kd.R_mono HO250.out (fun _ hk => trivial)⟩, ⟨by repeat (first | (with_reducible first | exact HB.out | apply below_alloc | apply pw_below_drewN | apply below_drew1) | exact HB.out)⟩⟩
       ·
        rw [if_neg c11] at H
        exact absurd H (by simp)
      ·
       rw [if_neg c10] at H
       have c10b0 : ((t245.length : Int) == 1) = false := beq_eq_false_iff_ne.mpr c10
       have c10b1 : ((t245.length : Int) != 1) = true := bne_iff_ne.mpr c10
       have H' := Aside0.mk H
       clear H
       have p244 : 0 ≤ (x9_1 : Int) := of_decide_eq_true (by first | (with_reducible assumption) | assumption)
       have q244 : x9_1 < (l1.length : Int) := of_decide_eq_true (by first | (with_reducible assumption) | assumption)
       obtain ⟨ad244, A244_0, c244_0, e244, hx244_0, hl244_0, hi244_0⟩ := at_L3 HR1.out x9_1 p244 q244
       cases e244
       replace hx244_0 := (HB.out.cell (World.block_lt_of_cell? w _ hx244_0)).trans hx244_0
       have HR244_0 := Aside0.mk hi244_0
       have HC244_0 := Aside0.mk hl244_0
       clear hi244_0 hl244_0
       replace p244 := eq_true p244
       replace q244 := eq_true q244
       go_wp2_with (first | ((with_reducible refine gate_callee (f := 66) rfl ?_); refine goesL_ (some 26) rfl rfl Try.func66 (by kernel_rfl) rfl #[.slice A244_0 (rd_L3 l1 x9_1).length c244_0, .slice A2 l2.length c2] rfl (by (try simp only [List.map_toArray, List.map_cons, List.map_nil]); first | done | rfl | (simp only [List.length_drop, List.length_take]; rfl)) ?_; (with_reducible refine (mosaicref13_Rest.calls k1 _ _ (rd_L3 l1 x9_1) _ _ l2 t245 _ ?side1 ?side2 ?side3 ?side4 A9.out).mono ?_); (case side1 => repeat (first | exact (Kd.C_below HR244_0.out HB.out) | (with_reducible refine Kd.C_alloc ?_ _) | (with_reducible refine Kd.C_drewN ?_ _) | (with_reducible refine Kd.C_drew ?_))); (case side2 => exact HC244_0.out); (case side3 => repeat (first | exact (Kd.C_below HR2.out HB.out) | (with_reducible refine Kd.C_alloc ?_ _) | (with_reducible refine Kd.C_drewN ?_ _) | (with_reducible refine Kd.C_drew ?_))); (case side4 => exact HC2.out); rintro e w15 ⟨v246, rfl, ho0, hb⟩; refine ⟨_, rfl, ?_⟩; have n0_ := Aside0.mk (Kd.R_elder' (by (with_reducible repeat (first | apply Kd.R_alloc | apply Kd.R_drewN | apply Kd.R_drew)); exact HO_8.out) (Kd.R_base ho0) hb); have n1_ := Aside0.mk (Kd.R_lower (Kd.R_new' ho0 (Kd.R_lt (by (with_reducible repeat (first | apply Kd.R_alloc | apply Kd.R_drewN | apply Kd.R_drew)); exact HO_8.out))) (below_size (by repeat (first | (with_reducible first | exact HB.out | apply below_alloc | apply pw_below_drewN | apply below_drew1) | exact HB.out)))); have n2_ := Aside0.mk (below_step (by repeat (first | (with_reducible first | exact HB.out | apply below_alloc | apply pw_below_drewN | apply below_drew1) | exact HB.out)) hb); clear HO_8; clear HB; have HO_8 := n0_; have HO247 := n1_; have HB := n2_; clear n0_ n1_ n2_; (try clear hb); (try clear hb2); (try clear hk); (try clear hi); (try clear ho0); obtain ⟨Ao16, co16, eo16⟩ := Kd.R_slice HO247.out; subst eo16))
       go_roundg k1
       case measure => have := HK1.out; omega
       case rel => exact ⟨(x8_1), (wrap64 (x9_1 + 1)), (by first | rfl | (simp; done) | (simp [*]; done)), H', ⟨by have := HK1.out; omega⟩, ⟨by (with_reducible repeat (first | apply Kd.R_alloc | apply Kd.R_drewN | apply Kd.R_drew)); exact Kd.R_mono HO_8.out (fun _ hk => trivial)⟩, ⟨by repeat (first | (with_reducible first | exact HB.out | apply below_alloc | apply pw_below_drewN | apply below_drew1) | exact HB.out)⟩⟩
     ·
      rw [if_neg c8] at H
      exact absurd H (by simp)
    ·
     rw [if_neg c7] at H
     have c7b0 : decide (x9_1 < (l1.length : Int)) = false := decide_eq_false c7
     clear c7
     simp only [Option.some.injEq, Prod.mk.injEq] at H
     obtain ⟨rfl, rfl⟩ := H
     go_wp2
     go_ret2
     exact ⟨_, by first | rfl | (simp [errW_none, errW_some] <;> rfl) | (simp [*, errW_none, errW_some] <;> rfl), by (with_reducible repeat (first | apply Kd.R_alloc | apply Kd.R_drewN | apply Kd.R_drew)); exact HO_8.out, by repeat (first | (with_reducible first | exact HB.out | apply below_alloc | apply pw_below_drewN | apply below_drew1) | exact HB.out)⟩
 ·
  replace c5 := Bool.eq_false_iff.mpr c5
  subst c5
  have H1 : (some (([] : List Int), 1)) = some (r1, r2) := by rw [if_neg (show ¬ (false = true) by decide)] at H; exact H
  clear H
  have H := H1
  clear H1
  simp only [Option.some.injEq, Prod.mk.injEq] at H
  obtain ⟨rfl, rfl⟩ := H
  go_enter Try.func26, Try.ntmps26
  go_wp2_with (first | ((with_reducible refine gate_callee (f := 63) rfl ?_); refine goesL_ (some 13) rfl rfl Try.func63 (by kernel_rfl) rfl #[.int .i64 a0, .slice A1 l1.length c1, .slice A2 l2.length c2] rfl (by (try simp only [List.map_toArray, List.map_cons, List.map_nil]); first | done | rfl | (simp only [List.length_drop, List.length_take]; rfl)) ?_; (with_reducible refine (mosaicref13_May.calls k a0 _ _ l1 (fun k_ => k_ < w.heap.size) _ _ l2 false _ ?side1 ?side2 ?side3 A4.out).mono ?_); (case side1 => repeat (first | exact HR1.out | (with_reducible refine Kd.C_alloc ?_ _) | (with_reducible refine Kd.C_drewN ?_ _) | (with_reducible refine Kd.C_drew ?_))); (case side2 => exact HC1.out); (case side3 => exact Kd.V_mk HC2.out (Kd.F_below (Kd.C_F (Kd.heap_int .i64) HR2.out) (by repeat (first | (with_reducible first | exact HB.out | apply below_alloc | apply pw_below_drewN | apply below_drew1) | exact HB.out)))); rintro e w17 ⟨rfl, hb⟩; refine ⟨_, rfl, ?_⟩; have n0_ := Aside0.mk (below_step (by repeat (first | (with_reducible first | exact HB.out | apply below_alloc | apply pw_below_drewN | apply below_drew1) | exact HB.out)) hb); clear HB; have HB := n0_; clear n0_; (try clear hb); (try clear hb2); (try clear hk); (try clear hi)))
  go_ret2
  exact ⟨_, by first | rfl | (simp [errW_none, errW_some] <;> rfl) | (simp [*, errW_none, errW_some] <;> rfl), by first | exact Kd.R_nil _ _ _ _ _ | exact Kd.N_nil _ _ _ _ _ | exact Kd.V_nil _ _ _ _ _ | exact Kd.Q_nil _ _ _ _ _ | exact Kd.S_nil _ _ _ _ _, by repeat (first | (with_reducible first | exact HB.out | apply below_alloc | apply pw_below_drewN | apply below_drew1) | exact HB.out)⟩

end Go.Proofs.Ytnchcapdfmccjaa.Print
/-! #### PurePeel3 -/
/- The reference's peeling is the program's; Known, Ripe and Steps of both; what gets known does not hang on the rows' order. -/
namespace Go.Proofs.Ytnchcapdfmccjaa.Pure
open Go.RowKit Go.Proofs.Ytnchcapdfmccjaa.Print Go.Proofs.YtnchcapdfmccjaaW.PrintWords Go.Proofs.YtnchcapdfmccjaaW.PrintLast
set_option linter.unusedVariables false
set_option linter.unusedSimpArgs false

/-- What is kept of a row beside a list of known numbers. -/
def restK (K r : List Int) : List Int := r.filter fun i => !decide (i ∈ K)
theorem rest_l0 (row K : List Int) (hl : row.length ≤ 1000) (hK : K.length ≤ 9223372036854775807) (d : Nat) : ∀ (i : Nat) (acc : List Int), row.length - i = d → i ≤ row.length → acc.length ≤ i →
    Ev (fun k => mosaicref13_Rest.l0 k row K acc (i : Int)) (acc ++ restK K (row.drop i)) := by
  induction d with
  | zero =>
    intro i acc hd hi ha
    refine Ev.succ ?_
    simp only [mosaicref13_Rest.l0]
    refine Ev.neg (by omega) (Ev.some_ ?_)
    rw [List.drop_of_length_le (by omega)]
    simp [restK]
  | succ d ih =>
    intro i acc hd hi ha
    have hlt : i < row.length := by omega
    refine Ev.succ ?_
    simp only [mosaicref13_Rest.l0]
    rw [rd_lt row i hlt, List.drop_eq_getElem_cons hlt, wrap_succ i (by omega)]
    refine Ev.pos (by omega) (Ev.pos (by omega) (Ev.bind (has_ev K row[i] hK) ?_))
    unfold restK
    by_cases h : row[i] ∈ K
    · refine Ev.pos (by simp [h]) ((ih (i + 1) acc (by omega) (by omega) (by omega)).to ?_)
      rw [List.filter_cons_of_neg (by simp [h])]
      rfl
    · refine Ev.neg (by simp [h]) (Ev.pos (by omega) ((ih (i + 1) (acc ++ [row[i]]) (by omega) (by omega) (by simp; omega)).to ?_))
      rw [List.filter_cons_of_pos (by simp [h])]
      simp [restK]
theorem rest_ev (row K : List Int) (hl : row.length ≤ 1000) (hK : K.length ≤ 9223372036854775807) : Ev (fun k => mosaicref13_Rest.f k row K) (restK K row) := by
  have := rest_l0 row K hl hK row.length 0 [] (by omega) (by omega) (by simp)
  simpa [mosaicref13_Rest.f] using this
/-- The list and the marks tell the same numbers known. -/
def alike (n : Nat) (K : List Int) (m : List Bool) : Prop := ∀ i : Int, 0 ≤ i → i < (n : Int) → mk m i = decide (i ∈ K)
theorem restK_eq {n : Nat} {K : List Int} {m : List Bool} (h : alike n K m) {r : List Int} (hr : inB n r) : restK K r = restB m r := by
  unfold restK restB
  refine List.filter_congr fun i hi => ?_
  rw [h i (hr i hi).1 (hr i hi).2]
theorem alike_set {n : Nat} {K : List Int} {m : List Bool} (h : alike n K m) (hm : m.length = n) {j : Int} (h0 : 0 ≤ j) (h1 : j < (n : Int)) : alike n (K ++ [j]) (m.set j.toNat true) := by
  intro i hi hi2
  rw [mk_set m j h0 (by omega) i hi, h i hi hi2]
  simp
theorem alike_marks (n : Int) (known : List Int) (hk : inB n.toNat known) : alike n.toNat known (marksB n known) := fun i hi _ => mk_marksB n known hk i hi
def to39 (p : Nat × Int) : S39 := ⟨(p.1 : Int), p.2⟩

section
variable (n : Nat) (rows : List (List Int)) (hn : n ≤ 160) (hb : rows.length ≤ 400) (hr : inR n rows) (hl : ∀ r ∈ rows, r.length ≤ 1000)
include hn hb hr hl

/-- The scan for a ripe row. -/
theorem peel13_l2 (m : List Bool) (hm : m.length = n) (K : List Int) (hK : K.length ≤ 100000) (ha : alike n K m) (step : Int) (acc : List S39) (hacc : acc.length ≤ 100000) (R : List S39 × List Int)
    (hnone : firstRipe m rows 0 = none → R = (acc, K)) (hs : ∀ j i, firstRipe m rows 0 = some (j, i) → Ev (fun k => mosaicref13_Peel.l1 k n rows (wrap64 (step + 1)) (acc ++ [to39 (j, i)]) (K ++ [i])) R) (d : Nat) :
    ∀ i : Nat, rows.length - i = d → i ≤ rows.length → firstRipe m rows 0 = firstRipe m (rows.drop i) i → Ev (fun k => mosaicref13_Peel.l2 k n rows step (-1) (i : Int) acc K) R := by
  have hkl : K.length ≤ 9223372036854775807 := by omega
  have _ := hn
  induction d with
  | zero =>
    intro i hd hi he
    rw [List.drop_of_length_le (by omega)] at he
    refine Ev.succ ?_
    simp only [mosaicref13_Peel.l2]
    refine Ev.neg (by omega) (Ev.succ ?_)
    simp only [mosaicref13_Peel.j3]
    exact Ev.neg (by simp) (Ev.pos (by omega) (Ev.some_ (hnone he).symm))
  | succ d ih =>
    intro i hd hi he
    have hlt : i < rows.length := by omega
    have hmem := List.getElem_mem hlt
    have hrr : rd_L3 rows (i : Int) = rows[i] := by simp [rd_L3, List.getD_eq_getElem?_getD, hlt]
    have hrest : restK K rows[i] = restB m rows[i] := restK_eq ha (hr _ hmem)
    have hone := (gapA_one (restB m rows[i]) (fun x hx => (rest_in (hr _ hmem) x hx).1)).1
    rw [List.drop_eq_getElem_cons hlt] at he
    refine Ev.succ ?_
    simp only [mosaicref13_Peel.l2]
    refine Ev.pos (by omega) (Ev.succ ?_)
    simp only [mosaicref13_Peel.j3]
    rw [hrr]
    refine Ev.pos (by simp) (Ev.pos (by omega) (Ev.pos (by omega) (Ev.bind (rest_ev rows[i] K (hl _ hmem) hkl) ?_)))
    rw [hrest, wrap_succ i (by omega)]
    by_cases hg : (gapR m rows[i]).2 = true
    · obtain ⟨e, h0, h1, _⟩ := gap_ripe (by rw [hm]; exact hr _ hmem) hg
      have e2 : firstRipe m rows 0 = some (i, (gapR m rows[i]).1) := by
        rw [he]
        simp [firstRipe, hg]
      refine Ev.pos (by rw [e]; rfl) (Ev.succ ?_)
      simp only [mosaicref13_Peel.l2]
      have fin : Ev (fun k => mosaicref13_Peel.j3 k n rows step (i : Int) ((i + 1 : Nat) : Int) false acc K) R := by
        refine Ev.succ ?_
        simp only [mosaicref13_Peel.j3]
        rw [hrr]
        refine Ev.neg (by simp) (Ev.neg (by omega) (Ev.pos (by omega) (Ev.pos (by omega) (Ev.bind (rest_ev rows[i] K (hl _ hmem) hkl) ?_))))
        rw [hrest, e]
        refine Ev.pos (by simp) (Ev.pos (by omega) (Ev.pos (by omega) ?_))
        have := hs _ _ e2
        simpa [to39, rd] using this
      by_cases h3 : ((i + 1 : Nat) : Int) < (rows.length : Int)
      · refine Ev.pos h3 ?_
        rw [decide_eq_false (by omega)]
        exact fin
      · exact Ev.neg h3 fin
    · have hlen : ¬ ((restB m rows[i]).length : Int) = 1 := by
        intro h
        apply hg
        unfold gapR
        rw [hone]
        simp
        omega
      refine Ev.neg hlen (ih (i + 1) (by omega) (by omega) ?_)
      rw [he]
      simp [firstRipe, hg]
theorem peel13_l1 (f : Nat) : ∀ (m : List Bool) (K : List Int) (acc : List S39) (step : Nat), m.length = n → alike n K m → step + f = n → K.length ≤ 10000 + step → acc.length ≤ step →
    Ev (fun k => mosaicref13_Peel.l1 k n rows (step : Int) acc K) (acc ++ (runS rows f m).1.map to39, K ++ (runS rows f m).1.map (·.2)) := by
  induction f with
  | zero =>
    intro m K acc step hm ha hs hK hacc
    refine Ev.succ ?_
    simp only [mosaicref13_Peel.l1]
    exact Ev.neg (by omega) (Ev.some_ (by simp [runS]))
  | succ f ih =>
    intro m K acc step hm ha hs hK hacc
    refine Ev.succ ?_
    simp only [mosaicref13_Peel.l1]
    refine Ev.pos (by omega) ?_
    refine peel13_l2 n rows hn hb hr hl m hm K (by omega) ha step acc (by omega) _ (fun h => by simp [runS, h]) (fun j i h => ?_) rows.length 0 (by omega) (by omega) (by simp)
    obtain ⟨_, h0, h1, h2, _⟩ := ripe_fact (by rw [hm]; exact hr) h
    have e := ih (m.set i.toNat true) (K ++ [i]) (acc ++ [to39 (j, i)]) (step + 1) (by rw [List.length_set, hm]) (alike_set ha hm h0 (by omega)) (by omega) (by simp; omega) (by simp; omega)
    rw [wrap_succ step (by omega)]
    refine e.to ?_
    simp [runS, h]
theorem peel13_l0 (known : List Int) (hk : known.length ≤ 1000) (R) (next : Ev (fun k => mosaicref13_Peel.l1 k n rows 0 [] known) R) (d : Nat) : ∀ i : Nat, known.length - i = d → i ≤ known.length →
    Ev (fun k => mosaicref13_Peel.l0 k n rows known (i : Int) (known.take i)) R := by
  have _ := And.intro hn (And.intro hb (And.intro hr hl))
  induction d with
  | zero =>
    intro i hd hi
    refine Ev.succ ?_
    simp only [mosaicref13_Peel.l0]
    refine Ev.neg (by omega) ?_
    rw [List.take_of_length_le (by omega)]
    exact next
  | succ d ih =>
    intro i hd hi
    have hlt : i < known.length := by omega
    refine Ev.succ ?_
    simp only [mosaicref13_Peel.l0]
    have hlen : (known.take i).length ≤ 1000 := by rw [List.length_take]; omega
    refine Ev.pos (by omega) (Ev.pos (by omega) (Ev.pos (by omega) ?_))
    rw [wrap_succ i (by omega), rd_lt known i hlt, List.take_append_getElem hlt]
    exact ih (i + 1) (by omega) (by omega)
theorem peel13_ev (known : List Int) (hk : known.length ≤ 1000) (hki : inB n known) : Ev (fun k => mosaicref13_Peel.f k n rows known) ((peelB rows (marksB n known)).1.map to39, known ++ (peelB rows (marksB n known)).1.map (·.2)) := by
  have hm : (marksB (n : Int) known).length = n := by rw [marksB_length]; omega
  have ha : alike n known (marksB n known) := by
    have := alike_marks (n : Int) known (by simpa using hki)
    simpa using this
  have h1 := peel13_l1 n rows hn hb hr hl n (marksB n known) known [] 0 hm ha (by omega) (by omega) (by simp)
  have h2 := peel13_l0 n rows hn hb hr hl known hk _ h1 known.length 0 (by omega) (by omega)
  unfold mosaicref13_Peel.f peelB
  rw [hm]
  simpa using h2
end
theorem runS_alike (n : Nat) (rows : List (List Int)) (hr : inR n rows) : ∀ (f : Nat) (m : List Bool) (K : List Int), m.length = n → alike n K m → alike n (K ++ (runS rows f m).1.map (·.2)) (runS rows f m).2
  | 0, m, K, hm, ha => by simpa [runS] using ha
  | f + 1, m, K, hm, ha => by
    unfold runS
    cases h : firstRipe m rows 0 with
    | none => simpa using ha
    | some p =>
      obtain ⟨j, i⟩ := p
      obtain ⟨_, h0, h1, h2, _⟩ := ripe_fact (by rw [hm]; exact hr) h
      have := runS_alike n rows hr f (m.set i.toNat true) (K ++ [i]) (by rw [List.length_set, hm]) (alike_set ha hm h0 (by omega))
      simpa using this
end Go.Proofs.Ytnchcapdfmccjaa.Pure
/-! #### PurePeel4 -/
/- Known, Steps and Ripe of the program and of the reference; the closure of what is known. -/
namespace Go.Proofs.Ytnchcapdfmccjaa.Pure
open Go.RowKit Go.Proofs.Ytnchcapdfmccjaa.Print Go.Proofs.YtnchcapdfmccjaaW.PrintWords Go.Proofs.YtnchcapdfmccjaaW.PrintLast
set_option linter.unusedVariables false
set_option linter.unusedSimpArgs false

theorem mayFrom_length (n : Int) : ∀ (l : List Int) (p : Int), mayFrom n p l = true → (l.length : Int) ≤ n - 1 - p ∨ l = []
  | [], p, h => Or.inr rfl
  | x :: xs, p, h => by
    simp only [mayFrom, Bool.and_eq_true, decide_eq_true_eq] at h
    rcases mayFrom_length n xs x h.2 with h1 | h1
    · left
      simp only [List.length_cons]
      omega
    · subst h1
      left
      simp
      omega
structure MayP (n : Int) (rows : List (List Int)) (known : List Int) : Prop where
  n0 : 0 ≤ n
  n1 : n ≤ 160
  hb : rows.length ≤ 400
  rowsM : ∀ r ∈ rows, mayRowB n r = true
  knownM : mayRowB n known = true
theorem may_in {n : Int} {l : List Int} (h : mayRowB n l = true) : inB n.toNat l := fun i hi => by
  have := mayFrom_ge n l (-1) h i hi
  omega
theorem may_len {n : Int} (h1 : n ≤ 160) {l : List Int} (h : mayRowB n l = true) : l.length ≤ 160 := by
  rcases mayFrom_length n l (-1) h with h2 | h2
  · omega
  · simp [h2]
theorem MayP.of {n : Int} {rows : List (List Int)} {known : List Int} (h : mayP n rows known = true) : MayP n rows known := by
  simp only [mayP, gauss_May.b, Bool.and_eq_true, decide_eq_true_eq, List.all_eq_true] at h
  obtain ⟨⟨h1, h2, h3, h4⟩, _, _, _, h5⟩ := h
  exact ⟨h1, h2, h3, h4, h5 known (by simp)⟩
theorem MayP.to {n : Int} {rows : List (List Int)} {known : List Int} (h : MayP n rows known) : mayP n rows known = true := by
  simp only [mayP, gauss_May.b, Bool.and_eq_true, decide_eq_true_eq, List.all_eq_true]
  refine ⟨⟨h.n0, h.n1, h.hb, h.rowsM⟩, h.n0, h.n1, by simp, fun x hx => ?_⟩
  rw [List.mem_singleton.1 hx]
  exact h.knownM
section
variable {n : Int} {rows : List (List Int)} {known : List Int} (h : MayP n rows known)
include h
theorem MayP.inR : inR n.toNat rows := fun r hr => may_in (h.rowsM r hr)
theorem MayP.inK : inB n.toNat known := may_in h.knownM
theorem MayP.lens : ∀ r ∈ rows, r.length ≤ 160 := fun r hr => may_len h.n1 (h.rowsM r hr)
theorem MayP.lenK : known.length ≤ 160 := may_len h.n1 h.knownM
end
/-- The marks behind peeling; what is known then. -/
def endB (n : Int) (rows : List (List Int)) (known : List Int) : List Bool := (peelB rows (marksB n known)).2
def stepsB (n : Int) (rows : List (List Int)) (known : List Int) : List (Nat × Int) := (peelB rows (marksB n known)).1
def knownB (n : Int) (rows : List (List Int)) (known : List Int) : List Int := numsF true (endB n rows known) 0
theorem endB_length (n : Int) (rows : List (List Int)) (known : List Int) : (endB n rows known).length = n.toNat := by rw [endB, peelB, runS_length, marksB_length]
theorem marks_peel {n : Int} {rows : List (List Int)} {known : List Int} (h : MayP n rows known) : Ev (fun k => peel_marks.f k n known) (marksB n known) ∧ Ev (fun k => peel_peel.f k rows (marksB n known)) ((stepsB n rows known).map to38, endB n rows known) := by
  have hl := h.lenK
  have h0 := h.n0
  have h1 := h.n1
  refine ⟨marks_ev n h.n0 h.n1 known h.inK (by omega), ?_⟩
  exact peel_ev rows h.hb (fun r hr => by have := h.lens r hr; omega) (marksB n known) (by rw [marksB_length]; omega) (by rw [marksB_length]; exact h.inR)
theorem known_ev (n : Int) (rows : List (List Int)) (known : List Int) : Ev (fun k => peel_Known.f k n rows known) (if mayP n rows known = true then (knownB n rows known, 0) else ([], 1)) := by
  unfold peel_Known.f
  refine Ev.call (may_eq n rows known) ?_
  by_cases h : mayP n rows known = true
  · have hm := MayP.of h
    obtain ⟨h1, h2⟩ := marks_peel hm
    have := endB_length n rows known
    have h0 := hm.n0
    have h3 := hm.n1
    refine Ev.pos h (Ev.bind h1 (Ev.bind h2 (Ev.bind (numbers_ev (endB n rows known) true (by omega)) (Ev.some_ ?_))))
    rw [if_pos h]
    rfl
  · exact Ev.neg h (Ev.some_ (by rw [if_neg h]))
theorem steps_ev (n : Int) (rows : List (List Int)) (known : List Int) : Ev (fun k => peel_Steps.f k n rows known) (if mayP n rows known = true then ((stepsB n rows known).map to38, 0) else ([], 1)) := by
  unfold peel_Steps.f
  refine Ev.call (may_eq n rows known) ?_
  by_cases h : mayP n rows known = true
  · obtain ⟨h1, h2⟩ := marks_peel (MayP.of h)
    refine Ev.pos h (Ev.bind h1 (Ev.bind h2 (Ev.some_ ?_)))
    rw [if_pos h]
  · exact Ev.neg h (Ev.some_ (by rw [if_neg h]))
/-- The ripe rows' numbers. -/
def ripeF (m : List Bool) : List (List Int) → Nat → List Int
  | [], _ => []
  | r :: rs, i => if (gapR m r).2 = true then (i : Int) :: ripeF m rs (i + 1) else ripeF m rs (i + 1)
theorem ripe_l0 (m : List Bool) (rows : List (List Int)) (hm : m.length ≤ 160) (hr : inR m.length rows) (hl : ∀ r ∈ rows, r.length ≤ 160) (hb : rows.length ≤ 400) (d : Nat) : ∀ (i : Nat) (acc : List Int), rows.length - i = d → i ≤ rows.length → acc.length ≤ i →
    Ev (fun k => peel_Ripe.l0 k m acc rows (rows.length : Int) (i : Int)) (acc ++ ripeF m (rows.drop i) i, 0) := by
  induction d with
  | zero =>
    intro i acc hd hi ha
    refine Ev.succ ?_
    simp only [peel_Ripe.l0]
    refine Ev.neg (by omega) (Ev.some_ ?_)
    rw [List.drop_of_length_le (by omega)]
    simp [ripeF]
  | succ d ih =>
    intro i acc hd hi ha
    have hlt : i < rows.length := by omega
    have hmem := List.getElem_mem hlt
    have hrr : rd_L3 rows (i : Int) = rows[i] := by simp [rd_L3, List.getD_eq_getElem?_getD, hlt]
    have hll := hl _ hmem
    refine Ev.succ ?_
    simp only [peel_Ripe.l0]
    rw [hrr, List.drop_eq_getElem_cons hlt, wrap_succ i (by omega)]
    refine Ev.pos (by omega) (Ev.pos (by omega) (Ev.pos (by omega) (Ev.bind (gap_ev m rows[i] (by omega) (hr _ hmem) (by omega)) ?_)))
    unfold ripeF
    by_cases h : (gapR m rows[i]).2 = true
    · refine Ev.pos h (Ev.pos (by omega) ((ih (i + 1) (acc ++ [(i : Int)]) (by omega) (by omega) (by simp; omega)).to ?_))
      simp [h]
    · refine Ev.neg h ((ih (i + 1) acc (by omega) (by omega) (by omega)).to ?_)
      simp [h]
theorem ripe_ev (n : Int) (rows : List (List Int)) (known : List Int) : Ev (fun k => peel_Ripe.f k n rows known) (if mayP n rows known = true then (ripeF (marksB n known) rows 0, 0) else ([], 1)) := by
  unfold peel_Ripe.f
  refine Ev.call (may_eq n rows known) ?_
  by_cases h : mayP n rows known = true
  · have hm := MayP.of h
    have h0 := hm.n0
    have h3 := hm.n1
    have hlm : (marksB n known).length = n.toNat := marksB_length n known
    refine Ev.pos h (Ev.bind (marks_peel hm).1 ?_)
    have := ripe_l0 (marksB n known) rows (by omega) (by rw [hlm]; exact hm.inR) hm.lens hm.hb rows.length 0 [] (by omega) (by omega) (by simp)
    rw [if_pos h]
    simpa using this
  · exact Ev.neg h (Ev.some_ (by rw [if_neg h]))

/-! ### the reference's -/
theorem peel13_all {n : Int} {rows : List (List Int)} {known : List Int} (h : MayP n rows known) : Ev (fun k => mosaicref13_Peel.f k n rows known) ((stepsB n rows known).map to39, known ++ (stepsB n rows known).map (·.2)) := by
  have h0 := h.n0
  have h1 := h.n1
  have hl := h.lenK
  obtain ⟨m, rfl⟩ := Int.eq_ofNat_of_zero_le h.n0
  have hr := h.inR
  have hk := h.inK
  simp only [Int.toNat_natCast] at hr hk
  exact peel13_ev m rows (by omega) h.hb hr (fun r hr => by have := h.lens r hr; omega) known (by omega) hk
theorem steps13_ev (n : Int) (rows : List (List Int)) (known : List Int) (hl : ∀ r ∈ rows, r.length ≤ 9223372036854775807) (hk : known.length ≤ 9223372036854775807) : Ev (fun k => mosaicref13_Steps.f k n rows known) (if mayP n rows known = true then ((stepsB n rows known).map to39, 0) else ([], 1)) := by
  unfold mosaicref13_Steps.f
  refine Ev.bind (May13_ev n rows known hl hk) ?_
  by_cases h : mayP n rows known = true
  · refine Ev.pos h (Ev.bind (peel13_all (MayP.of h)) (Ev.some_ ?_))
    rw [if_pos h]
  · exact Ev.neg h (Ev.some_ (by rw [if_neg h]))
theorem known13_l0 (n : Nat) (hn : n ≤ 160) (m : List Bool) (hm : m.length = n) (K : List Int) (hK : K.length ≤ 100000) (ha : alike n K m) (steps : List S39) (d : Nat) : ∀ (i : Nat) (acc : List Int), n - i = d → i ≤ n → acc.length ≤ i →
    Ev (fun k => mosaicref13_Known.l0 k (n : Int) acc (i : Int) steps K) (acc ++ numsF true (m.drop i) i, 0) := by
  induction d with
  | zero =>
    intro i acc hd hi hacc
    refine Ev.succ ?_
    simp only [mosaicref13_Known.l0]
    refine Ev.neg (by omega) (Ev.some_ ?_)
    rw [List.drop_of_length_le (by omega)]
    simp [numsF]
  | succ d ih =>
    intro i acc hd hi hacc
    have hlt : i < m.length := by omega
    refine Ev.succ ?_
    simp only [mosaicref13_Known.l0]
    rw [wrap_succ i (by omega), List.drop_eq_getElem_cons hlt]
    have hmk : mk m (i : Int) = m[i] := by simp [mk, List.getD_eq_getElem?_getD, hlt]
    have := ha (i : Int) (by omega) (by omega)
    rw [hmk] at this
    refine Ev.pos (by omega) (Ev.bind (has_ev K (i : Int) (by omega)) ?_)
    rw [← this]
    unfold numsF
    cases hb : m[i] with
    | true => exact Ev.pos rfl (Ev.pos (by omega) ((ih (i + 1) (acc ++ [(i : Int)]) (by omega) (by omega) (by simp; omega)).to (by simp)))
    | false => exact Ev.neg (by simp) ((ih (i + 1) acc (by omega) (by omega) (by omega)).to (by simp))
theorem runS_steps_le (rows : List (List Int)) : ∀ (f : Nat) (m : List Bool), (runS rows f m).1.length ≤ f
  | 0, m => by simp [runS]
  | f + 1, m => by
    unfold runS
    cases firstRipe m rows 0 with
    | none => simp
    | some p => simpa using runS_steps_le rows f _
theorem known13_ev (n : Int) (rows : List (List Int)) (known : List Int) (hl : ∀ r ∈ rows, r.length ≤ 9223372036854775807) (hk : known.length ≤ 9223372036854775807) : Ev (fun k => mosaicref13_Known.f k n rows known) (if mayP n rows known = true then (knownB n rows known, 0) else ([], 1)) := by
  unfold mosaicref13_Known.f
  refine Ev.bind (May13_ev n rows known hl hk) ?_
  by_cases h : mayP n rows known = true
  · have hm := MayP.of h
    refine Ev.pos h (Ev.bind (peel13_all hm) ?_)
    rw [if_pos h]
    have h1 := hm.n1
    have hlK := hm.lenK
    have hs : (stepsB n rows known).length ≤ 160 := by
      have := runS_steps_le rows (marksB n known).length (marksB n known)
      rw [marksB_length] at this
      unfold stepsB peelB
      rw [marksB_length]
      omega
    obtain ⟨q, rfl⟩ := Int.eq_ofNat_of_zero_le hm.n0
    have hr := hm.inR
    have hki := hm.inK
    simp only [Int.toNat_natCast] at hr hki
    have he := endB_length (q : Int) rows known
    simp only [Int.toNat_natCast] at he
    have ha0 : alike q known (marksB (q : Int) known) := by
      have := alike_marks (q : Int) known (by simpa using hki)
      simpa using this
    have ha : alike q (known ++ (stepsB (q : Int) rows known).map (·.2)) (endB (q : Int) rows known) := runS_alike q rows hr _ (marksB (q : Int) known) known (by rw [marksB_length]; simp) ha0
    have := known13_l0 q (by omega) (endB (q : Int) rows known) he _ (by simp; omega) ha ((stepsB (q : Int) rows known).map to39) q 0 [] (by omega) (by omega) (by simp)
    simpa [knownB] using this
  · exact Ev.neg h (Ev.some_ (by rw [if_neg h]))
theorem ripe13_l0 (n : Nat) (m : List Bool) (hm : m.length = n) (known : List Int) (hk : known.length ≤ 160) (ha : alike n known m) (rows : List (List Int)) (hr : inR n rows) (hl : ∀ r ∈ rows, r.length ≤ 160) (hb : rows.length ≤ 400) (d : Nat) : ∀ (i : Nat) (acc : List Int), rows.length - i = d → i ≤ rows.length → acc.length ≤ i →
    Ev (fun k => mosaicref13_Ripe.l0 k rows known acc (i : Int)) (acc ++ ripeF m (rows.drop i) i, 0) := by
  induction d with
  | zero =>
    intro i acc hd hi hacc
    refine Ev.succ ?_
    simp only [mosaicref13_Ripe.l0]
    refine Ev.neg (by omega) (Ev.some_ ?_)
    rw [List.drop_of_length_le (by omega)]
    simp [ripeF]
  | succ d ih =>
    intro i acc hd hi hacc
    have hlt : i < rows.length := by omega
    have hmem := List.getElem_mem hlt
    have hrr : rd_L3 rows (i : Int) = rows[i] := by simp [rd_L3, List.getD_eq_getElem?_getD, hlt]
    have hll := hl _ hmem
    refine Ev.succ ?_
    simp only [mosaicref13_Ripe.l0]
    rw [hrr, List.drop_eq_getElem_cons hlt, wrap_succ i (by omega)]
    refine Ev.pos (by omega) (Ev.pos (by omega) (Ev.bind (rest_ev rows[i] known (by omega) (by omega)) ?_))
    rw [restK_eq ha (hr _ hmem)]
    have hone := (gapA_one (restB m rows[i]) (fun x hx => (rest_in (hr _ hmem) x hx).1)).1
    unfold ripeF gapR
    rw [hone]
    by_cases h : (restB m rows[i]).length = 1
    · exact Ev.pos (by omega) (Ev.pos (by omega) ((ih (i + 1) (acc ++ [(i : Int)]) (by omega) (by omega) (by simp; omega)).to (by simp [h])))
    · exact Ev.neg (by omega) ((ih (i + 1) acc (by omega) (by omega) (by omega)).to (by simp [h]))
theorem ripe13_ev (n : Int) (rows : List (List Int)) (known : List Int) (hl : ∀ r ∈ rows, r.length ≤ 9223372036854775807) (hk : known.length ≤ 9223372036854775807) : Ev (fun k => mosaicref13_Ripe.f k n rows known) (if mayP n rows known = true then (ripeF (marksB n known) rows 0, 0) else ([], 1)) := by
  unfold mosaicref13_Ripe.f
  refine Ev.bind (May13_ev n rows known hl hk) ?_
  by_cases h : mayP n rows known = true
  · have hm := MayP.of h
    refine Ev.pos h ?_
    rw [if_pos h]
    have := ripe13_l0 n.toNat (marksB n known) (marksB_length n known) known hm.lenK (alike_marks n known hm.inK) rows hm.inR hm.lens hm.hb rows.length 0 [] (by omega) (by omega) (by simp)
    simpa using this
  · exact Ev.neg h (Ev.some_ (by rw [if_neg h]))
theorem awake13_ev : Ev (fun k => mosaiclaw13_awake.f k) true := Ev.of mosaiclaw13_awake.mono (k := 30) (by decide +kernel)
end Go.Proofs.Ytnchcapdfmccjaa.Pure
/-! #### PurePeel5 -/
/- What is known behind peeling is the least set that holds what was known, and each number of a row of which all others are in it: so it does not hang on the rows' order. -/
namespace Go.Proofs.Ytnchcapdfmccjaa.Pure
open Go.RowKit Go.Proofs.Ytnchcapdfmccjaa.Print Go.Proofs.YtnchcapdfmccjaaW.PrintWords Go.Proofs.YtnchcapdfmccjaaW.PrintLast
set_option linter.unusedVariables false
set_option linter.unusedSimpArgs false

/-- The least set: what was known; the last number of a row. -/
def Der (rows : List (List Int)) (K : List Int) (i : Int) : Prop := ∀ P : Int → Prop, (∀ j ∈ K, P j) → (∀ r ∈ rows, ∀ j ∈ r, (∀ x ∈ r, x ≠ j → P x) → P j) → P i
theorem Der.base {rows : List (List Int)} {K : List Int} {i : Int} (h : i ∈ K) : Der rows K i := fun P h1 _ => h1 i h
theorem Der.step {rows : List (List Int)} {K : List Int} {i : Int} {r : List Int} (hr : r ∈ rows) (hi : i ∈ r) (h : ∀ x ∈ r, x ≠ i → Der rows K x) : Der rows K i := fun P h1 h2 => h2 r hr i hi (fun x hx hne => h x hx hne P h1 h2)
theorem Der.mono {rows rows' : List (List Int)} {K K' : List Int} (hr : ∀ r ∈ rows, r ∈ rows') (hk : ∀ j ∈ K, Der rows' K' j) {i : Int} (h : Der rows K i) : Der rows' K' i :=
  h (Der rows' K') hk (fun r hr1 j hj hx => Der.step (hr r hr1) hj hx)

theorem filter_one {p : Int → Bool} {i : Int} : ∀ (l : List Int), l.Nodup → i ∈ l → p i = true → (∀ j ∈ l, j ≠ i → p j = false) → l.filter p = [i]
  | [], _, h, _, _ => by simp at h
  | x :: xs, hn, h, hp, ho => by
    rw [List.nodup_cons] at hn
    by_cases e : x = i
    · subst e
      rw [List.filter_cons_of_pos hp, List.filter_eq_nil_iff.2 (fun j hj => ?_)]
      rw [ho j (List.mem_cons_of_mem _ hj) (fun e => hn.1 (e ▸ hj))]
      simp
    · rw [List.filter_cons_of_neg (by rw [ho x (by simp) e]; simp)]
      exact filter_one xs hn.2 ((List.mem_cons.1 h).resolve_left (Ne.symm e)) hp (fun j hj => ho j (List.mem_cons_of_mem _ hj))
theorem mayFrom_nodup (n : Int) : ∀ (l : List Int) (p : Int), mayFrom n p l = true → l.Nodup
  | [], p, h => List.nodup_nil
  | x :: xs, p, h => by
    simp only [mayFrom, Bool.and_eq_true, decide_eq_true_eq] at h
    rw [List.nodup_cons]
    refine ⟨fun hx => ?_, mayFrom_nodup n xs x h.2⟩
    have := mayFrom_ge n xs x h.2 x hx
    omega
theorem runS_mono (rows : List (List Int)) : ∀ (f : Nat) (m : List Bool), inR m.length rows → ∀ i : Int, 0 ≤ i → mk m i = true → mk (runS rows f m).2 i = true
  | 0, m, _, i, _, h => h
  | f + 1, m, hr, i, hi, h => by
    unfold runS
    cases e : firstRipe m rows 0 with
    | none => exact h
    | some p =>
      obtain ⟨j, x⟩ := p
      obtain ⟨_, h0, h1, _, _⟩ := ripe_fact hr e
      exact runS_mono rows f _ (by rw [List.length_set]; exact hr) i hi (by rw [mk_set m x h0 h1 i hi, h]; rfl)
theorem runS_final (rows : List (List Int)) : ∀ (f : Nat) (m : List Bool), inR m.length rows → m.count false ≤ f → firstRipe (runS rows f m).2 rows 0 = none
  | 0, m, hr, hc => by
    cases e : firstRipe m rows 0 with
    | none => simpa [runS] using e
    | some p =>
      obtain ⟨j, x⟩ := p
      obtain ⟨_, h0, h1, h2, _⟩ := ripe_fact hr e
      have := count_step h0 h1 h2
      omega
  | f + 1, m, hr, hc => by
    unfold runS
    cases e : firstRipe m rows 0 with
    | none => exact e
    | some p =>
      obtain ⟨j, x⟩ := p
      obtain ⟨_, h0, h1, h2, _⟩ := ripe_fact hr e
      have := count_step h0 h1 h2
      exact runS_final rows f _ (by rw [List.length_set]; exact hr) (by omega)
theorem runS_sound (rows : List (List Int)) (K : List Int) : ∀ (f : Nat) (m : List Bool), inR m.length rows → (∀ i : Int, 0 ≤ i → mk m i = true → Der rows K i) → ∀ i : Int, 0 ≤ i → mk (runS rows f m).2 i = true → Der rows K i
  | 0, m, _, h, i, hi, hm => h i hi hm
  | f + 1, m, hr, h, i, hi, hm => by
    unfold runS at hm
    cases e : firstRipe m rows 0 with
    | none =>
      rw [e] at hm
      exact h i hi hm
    | some p =>
      obtain ⟨j, x⟩ := p
      rw [e] at hm
      obtain ⟨_, h0, h1, _, r, hmem, hrest⟩ := ripe_fact hr e
      refine runS_sound rows K f _ (by rw [List.length_set]; exact hr) (fun i hi hm => ?_) i hi hm
      rw [mk_set m x h0 h1 i hi, Bool.or_eq_true, decide_eq_true_eq] at hm
      rcases hm with hm | rfl
      · exact h i hi hm
      · have hx : i ∈ restB m r := by rw [hrest]; simp
        refine Der.step hmem (List.mem_filter.1 hx).1 (fun y hy hne => h y (hr r hmem y hy).1 ?_)
        cases hmk : mk m y with
        | true => rfl
        | false =>
          have : y ∈ restB m r := List.mem_filter.2 ⟨hy, by simp [hmk]⟩
          rw [hrest] at this
          exact absurd (List.mem_singleton.1 this) hne
theorem end_der {n : Int} {rows : List (List Int)} {known : List Int} (h : MayP n rows known) (i : Int) (hi : 0 ≤ i) : mk (endB n rows known) i = true ↔ Der rows known i := by
  have hlm : (marksB n known).length = n.toNat := marksB_length n known
  have hr : inR (marksB n known).length rows := by rw [hlm]; exact h.inR
  constructor
  · refine runS_sound rows known _ (marksB n known) hr (fun i hi hm => ?_) i hi
    rw [mk_marksB n known h.inK i hi] at hm
    exact Der.base (of_decide_eq_true hm)
  · intro hd
    have hf := runS_final rows (marksB n known).length (marksB n known) hr List.count_le_length
    refine (hd (fun i => 0 ≤ i ∧ mk (endB n rows known) i = true) (fun j hj => ?_) (fun r hmem j hj hx => ?_)).2
    · have h0 := (h.inK j hj).1
      exact ⟨h0, runS_mono rows _ (marksB n known) hr j h0 (by rw [mk_marksB n known h.inK j h0]; exact decide_eq_true hj)⟩
    · refine ⟨(h.inR r hmem j hj).1, ?_⟩
      cases hmk : mk (endB n rows known) j with
      | true => rfl
      | false =>
        have hrest : restB (endB n rows known) r = [j] := filter_one r (mayFrom_nodup n r (-1) (h.rowsM r hmem)) hj (by simp [hmk]) (fun y hy hne => by simp [(hx y hy hne).2])
        have h1 := firstRipe_none rows 0 hf r hmem
        have h2 := (gapA_one [j] (fun x hx => by rw [List.mem_singleton.1 hx]; exact (h.inR r hmem j hj).1)).1
        have h3 : (gapR (endB n rows known) r).2 = true := by
          unfold gapR
          rw [hrest, h2]
          rfl
        exact absurd (h3.symm.trans h1) (by simp)
theorem marks_ext {a b : List Bool} (hl : a.length = b.length) (h : ∀ i : Int, 0 ≤ i → (mk a i = true ↔ mk b i = true)) : a = b := by
  apply List.ext_getElem hl
  intro i h1 h2
  have := h (i : Int) (by omega)
  simp only [mk, Int.toNat_natCast, List.getD_eq_getElem?_getD, List.getElem?_eq_getElem h1, List.getElem?_eq_getElem h2, Option.getD_some] at this
  cases ha : a[i] <;> cases hb : b[i] <;> simp_all
theorem known_eq {n : Int} {rows rows' : List (List Int)} {known known' : List Int} (h : MayP n rows known) (h' : MayP n rows' known') (hd : ∀ i : Int, Der rows known i ↔ Der rows' known' i) : knownB n rows known = knownB n rows' known' := by
  have : endB n rows known = endB n rows' known' := marks_ext (by rw [endB_length, endB_length]) (fun i hi => by rw [end_der h i hi, end_der h' i hi]; exact hd i)
  unfold knownB
  rw [this]
theorem mem_known {n : Int} {rows : List (List Int)} {known : List Int} (h : MayP n rows known) (i : Int) : i ∈ knownB n rows known ↔ 0 ≤ i ∧ Der rows known i := by
  unfold knownB
  rw [mem_nums]
  constructor
  · rintro ⟨h0, h1⟩
    exact ⟨h0, (end_der h i h0).1 h1⟩
  · rintro ⟨h0, h1⟩
    exact ⟨h0, (end_der h i h0).2 h1⟩
theorem known_may {n : Int} {rows : List (List Int)} {known : List Int} (h : MayP n rows known) : mayRowB n (knownB n rows known) = true := by
  have h0 := h.n0
  exact numsF_may true (endB n rows known) 0 n (-1) (by omega) (by rw [endB_length]; omega)
theorem known_len {n : Int} {rows : List (List Int)} {known : List Int} (h : MayP n rows known) : (knownB n rows known).length ≤ 160 := may_len h.n1 (known_may h)
/-- The answer of Known, by what is in the rows alone. -/
def knownR (n : Int) (rows : List (List Int)) (known : List Int) : List Int × Int := if mayP n rows known = true then (knownB n rows known, 0) else ([], 1)
theorem knownR_congr (n : Int) (rows rows' : List (List Int)) (known : List Int) (hl : rows.length = rows'.length) (hm : ∀ r, r ∈ rows ↔ r ∈ rows') : knownR n rows known = knownR n rows' known := by
  have hmay : mayP n rows known = mayP n rows' known := by
    unfold mayP gauss_May.b
    have : rows.all (mayRowB n) = rows'.all (mayRowB n) := by
      rw [Bool.eq_iff_iff, List.all_eq_true, List.all_eq_true]
      exact ⟨fun h r hr => h r ((hm r).2 hr), fun h r hr => h r ((hm r).1 hr)⟩
    rw [this, hl]
  unfold knownR
  rw [← hmay]
  by_cases h : mayP n rows known = true
  · rw [if_pos h, if_pos h]
    have h1 := MayP.of h
    have h2 := MayP.of (hmay ▸ h)
    rw [known_eq h1 h2 (fun i => ⟨fun hd => hd.mono (fun r hr => (hm r).1 hr) (fun j hj => Der.base hj), fun hd => hd.mono (fun r hr => (hm r).2 hr) (fun j hj => Der.base hj)⟩)]
  · rw [if_neg h, if_neg h]
theorem knownR_len (n : Int) (rows : List (List Int)) (known : List Int) : (knownR n rows known).1.length ≤ 160 := by
  unfold knownR
  by_cases h : mayP n rows known = true
  · rw [if_pos h]
    exact known_len (MayP.of h)
  · rw [if_neg h]
    simp
end Go.Proofs.Ytnchcapdfmccjaa.Pure
/-! #### PurePeelOrder -/
/- In which order rows stand does not matter to what gets known: for all rows that may be (and for those that may not, the error is the same); turned by several numbers, and turned round. -/
namespace Go.Proofs.Ytnchcapdfmccjaa.Pure
open Go.RowKit Go.Proofs.Ytnchcapdfmccjaa.Print Go.Proofs.YtnchcapdfmccjaaW.PrintWords Go.Proofs.YtnchcapdfmccjaaW.PrintLast
set_option linter.unusedVariables false
set_option linter.unusedSimpArgs false

theorem tmod_nat (a b : Nat) : Int.tmod (a : Int) (b : Int) = ((a % b : Nat) : Int) := by
  rw [Int.tmod_eq_emod_of_nonneg (by omega)]
  rfl
/-- The rows, read at some places. -/
def atB (rows : List (List Int)) (g : Nat → Nat) (k : Nat) : List (List Int) := (List.range k).map fun j => rows.getD (g j) []
theorem atB_succ (rows : List (List Int)) (g : Nat → Nat) (k : Nat) : atB rows g (k + 1) = atB rows g k ++ [rows.getD (g k) []] := by simp [atB, List.range_succ]
theorem atB_length (rows : List (List Int)) (g : Nat → Nat) (k : Nat) : (atB rows g k).length = k := by simp [atB]
theorem atB_mem (rows : List (List Int)) (g : Nat → Nat) (hg : ∀ j, j < rows.length → g j < rows.length) (hs : ∀ i, i < rows.length → ∃ j, j < rows.length ∧ g j = i) (r : List Int) : r ∈ rows ↔ r ∈ atB rows g rows.length := by
  unfold atB
  rw [List.mem_map]
  constructor
  · intro h
    obtain ⟨i, hi, rfl⟩ := List.getElem_of_mem h
    obtain ⟨j, hj, e⟩ := hs i hi
    exact ⟨j, by simpa using hj, by rw [e]; simp [List.getD_eq_getElem?_getD, hi]⟩
  · rintro ⟨j, hj, rfl⟩
    have hj' : j < rows.length := by simpa using hj
    have := hg j hj'
    simp [List.getD_eq_getElem?_getD, this]
def turnG (q b j : Nat) : Nat := (j + b) % q
def backG (q b j : Nat) : Nat := q - 1 - (j + b) % q
theorem turn_onto (q b : Nat) (hq : 0 < q) (hb : b ≤ q) (i : Nat) (hi : i < q) : ∃ j, j < q ∧ (j + b) % q = i := by
  refine ⟨(i + (q - b)) % q, Nat.mod_lt _ hq, ?_⟩
  rw [Nat.mod_add_mod, show i + (q - b) + b = i + q by omega, Nat.add_mod_right, Nat.mod_eq_of_lt hi]

theorem order_l1 (n : Int) (rows : List (List Int)) (known : List Int) (hq : 0 < rows.length) (h40 : rows.length ≤ 40) (b : Nat) (hb : b < rows.length)
    (next : Ev (fun k => mosaiclaw13_PeelOrder.l0 k n rows known (knownR n rows known).1 (knownR n rows known).2 ((b + 1 + rows.length / 4 : Nat) : Int)) true) (d : Nat) : ∀ j : Nat, rows.length - j = d → j ≤ rows.length →
    Ev (fun k => mosaiclaw13_PeelOrder.l1 k n rows known (knownR n rows known).1 (knownR n rows known).2 (b : Int) (atB rows (turnG rows.length b) j) (atB rows (backG rows.length b) j) (j : Int)) true := by
  induction d with
  | zero =>
    intro j hd hj
    obtain rfl : j = rows.length := by omega
    refine Ev.succ ?_
    simp only [mosaiclaw13_PeelOrder.l1]
    have e1 : knownR n (atB rows (turnG rows.length b) rows.length) known = knownR n rows known :=
      (knownR_congr n rows _ known (atB_length _ _ _).symm (atB_mem rows _ (fun j _ => Nat.mod_lt _ hq) (fun i hi => turn_onto _ b hq (by omega) i hi))).symm
    have e2 : knownR n (atB rows (backG rows.length b) rows.length) known = knownR n rows known := by
      refine (knownR_congr n rows _ known (atB_length _ _ _).symm (atB_mem rows _ (fun j _ => by unfold backG; omega) (fun i hi => ?_))).symm
      obtain ⟨j, hj, e⟩ := turn_onto rows.length b hq (by omega) (rows.length - 1 - i) (by omega)
      exact ⟨j, hj, by unfold backG; rw [e]; omega⟩
    have k1 := known_ev n (atB rows (turnG rows.length b) rows.length) known
    have k2 := known_ev n (atB rows (backG rows.length b) rows.length) known
    have hlen := knownR_len n rows known
    refine Ev.neg (by omega) (Ev.bind (k1.to e1) (Ev.bind (k2.to e2) (Ev.bind (same_ev _ _ (by omega)) (Ev.pos (by simp) (Ev.bind (same_ev _ _ (by omega)) (Ev.pos (by simp) (Ev.pos rfl (Ev.pos rfl ?_))))))))
    have w1 : wrap64 ((rows.length : Int) / 4) = ((rows.length / 4 : Nat) : Int) := by unfold wrap64; omega
    have w2 : wrap64 (wrap64 ((b : Int) + 1) + ((rows.length / 4 : Nat) : Int)) = ((b + 1 + rows.length / 4 : Nat) : Int) := by unfold wrap64; omega
    rw [w1, w2]
    exact next
  | succ d ih =>
    intro j hd hj
    have hmod : (j + b) % rows.length < rows.length := Nat.mod_lt _ hq
    have w1 : wrap64 ((j : Int) + (b : Int)) = ((j + b : Nat) : Int) := by unfold wrap64; omega
    have w2 : wrap64 (wrap64 ((rows.length : Int) - 1) - (((j + b) % rows.length : Nat) : Int)) = ((rows.length - 1 - (j + b) % rows.length : Nat) : Int) := by unfold wrap64; omega
    have r1 : rd_L3 rows (((j + b) % rows.length : Nat) : Int) = rows.getD (turnG rows.length b j) [] := by
      unfold rd_L3 turnG
      rw [Int.toNat_natCast]
    have r2 : rd_L3 rows ((rows.length - 1 - (j + b) % rows.length : Nat) : Int) = rows.getD (backG rows.length b j) [] := by
      unfold rd_L3 backG
      rw [Int.toNat_natCast]
    refine Ev.succ ?_
    simp only [mosaiclaw13_PeelOrder.l1]
    rw [w1, tmod_nat, w2, r1, r2, wrap_succ j (by omega)]
    refine Ev.pos (by omega) (Ev.neg (by omega) (Ev.pos (by omega) (Ev.pos (by omega) (Ev.pos (by rw [atB_length]; omega) (Ev.pos (by omega) (Ev.pos (by omega) (Ev.pos (by rw [atB_length]; omega) ?_)))))))
    rw [← atB_succ, ← atB_succ]
    exact ih (j + 1) (by omega) (by omega)
theorem order_l0 (n : Int) (rows : List (List Int)) (known : List Int) (hq : 0 < rows.length) (h40 : rows.length ≤ 40) (d : Nat) : ∀ b : Nat, 100 - b = d → b ≤ 100 → Ev (fun k => mosaiclaw13_PeelOrder.l0 k n rows known (knownR n rows known).1 (knownR n rows known).2 (b : Int)) true := by
  induction d using Nat.strongRecOn with
  | _ d ih =>
    intro b hd hb
    refine Ev.succ ?_
    simp only [mosaiclaw13_PeelOrder.l0]
    by_cases hlt : (b : Int) < (rows.length : Int)
    · refine Ev.pos hlt ?_
      have next := ih (100 - (b + 1 + rows.length / 4)) (by omega) (b + 1 + rows.length / 4) rfl (by omega)
      have := order_l1 n rows known hq h40 b (by omega) next rows.length 0 (by omega) (by omega)
      exact this
    · exact Ev.neg hlt (Ev.bind awake13_ev (Ev.some_ rfl))
theorem PeelOrder : mosaiclaw13_PeelOrder.Pure := by
  intro n rows known w0 hq1 hq2
  refine Ev.rounds ?_
  unfold mosaiclaw13_PeelOrder.f
  refine Ev.bind (few_ev n rows known) ?_
  cases hf : (fewB n rows && fewB n [known]) with
  | false =>
    refine Ev.neg (by simp) (Ev.succ ?_)
    simp only [mosaiclaw13_PeelOrder.j0]
    exact Ev.pos (by trivial) (Ev.bind awake13_ev (Ev.some_ rfl))
  | true =>
    refine Ev.pos rfl (Ev.succ ?_)
    simp only [mosaiclaw13_PeelOrder.j0]
    by_cases h0 : rows.length = 0
    · exact Ev.pos (by simp [h0]) (Ev.bind awake13_ev (Ev.some_ rfl))
    · have h40 : rows.length ≤ 40 := by
        simp only [fewB, Bool.and_eq_true, decide_eq_true_eq] at hf
        exact hf.1.2.1
      exact Ev.neg (by simpa using h0) (Ev.bind (known_ev n rows known) (order_l0 n rows known (by omega) h40 100 0 rfl (by omega)))
end Go.Proofs.Ytnchcapdfmccjaa.Pure
/-! #### LawPeelOrder -/
-- The row of the law mosaiclaw13_PeelOrder, out of its pure statement (YtnchcapdfmccjaaPurePeelOrder) and the printed walk; by a program of this session.
namespace Go.Proofs.Ytnchcapdfmccjaa.peelOrder
open Go.ChangeShapes Go.WideShapes Go.ChangeAt Go.RowKit Go.Proofs.Ytnchcapdfmccjaa.Print Go.Proofs.YtnchcapdfmccjaaW.PrintWords Go.Proofs.Ytnchcapdfmccjaa.Open
open Go.ChangeMaps (open_string shut_string)
set_option linter.unusedVariables false
set_option linter.unusedSimpArgs false
theorem own : ownKnob Try.prog.godebug = none := by kernel_rfl
theorem laidOut : laidOutB Try.prog = true := by kernel_rfl
set_option maxRecDepth 100000 in
theorem lifted (os : Os) (started : os.Started) (H : Type) (enc : TypeId × Value → H) :
    ReturnsInHanded {} Try.checked os 3 .any (Rows.peelOrderSpec.pre6 enc Try.prog Try.f3 Rows.peelOrderRow.domain false) (Rows.peelOrderSpec.post enc Try.prog Try.f3 false true false false) := by
  refine returnsInHanded_of_change_sized (C := Try.checked) own started (by kernel_rfl) Try.func3
    (ChangeSpec.witness6 (enc := enc) (C := Try.checked) false ⟨#[], #[.int .i64 0, .slice none 0 0, .slice none 0 0], []⟩ 8 (by kernel_rfl) (by kernel_rfl) (by kernel_rfl) (by kernel_rfl)) ?_
  intro W base args ds gs before hval0 hW hcnd hsz0 _
  have hval : ∀ (j : Nat) t v, Try.f3.params[j]? = some t → args[j]? = some v → Value.okWide Try.prog W .any base t v := hval0
  have hW' := hW
  obtain ⟨p, q, hA0, hV, rfl, hfz, hnd⟩ := hW
  have hA : DataW.TrodAll enc Try.prog W 0 (fun _ => true) true Try.f3.params.toList args.toList ds p := hA0
  rw [Try.params3] at hA hval
  obtain ⟨v0, vs0, d0, ds0, p0, q0, hargs, rfl, rfl, h0, r0⟩ := trodAll_cons hA
  obtain ⟨v1, vs1, d1, ds1, p1, q1, rfl, rfl, rfl, h1, r1⟩ := trodAll_cons r0
  obtain ⟨v2, vs2, d2, ds2, p2, q2, rfl, rfl, rfl, h2, r2⟩ := trodAll_cons r1
  obtain ⟨rfl, rfl, rfl⟩ := trodAll_nil r2
  obtain rfl : args = #[v0, v1, v2] := by cases args; simp_all
  obtain ⟨rfl, rfl⟩ := trodVars_none hV
  obtain ⟨a0, rfl, rfl, rfl, w0⟩ := open_int Try.underlying3 (hval 0 3 v0 rfl rfl) h0
  have lt1 : ∀ x ∈ p1, x.block < W.heap.size := by obtain ⟨m, hm⟩ := h1; exact DataW.trod_lt m _ _ _ hm
  have k1 := h1
  have one1 : v1.cells.toList = [v1] := by obtain ⟨a_, len_, cap_, rfl⟩ := okWide_slice Try.underlying22 (hval 1 22 v1 rfl rfl); rfl
  obtain ⟨A1, c1, l1, rfl, hc1, hr1, hq1⟩ := arg_slice opens22 one1 h1
  have lt2 : ∀ x ∈ p2, x.block < W.heap.size := by obtain ⟨m, hm⟩ := h2; exact DataW.trod_lt m _ _ _ hm
  have k2 := h2
  have one2 : v2.cells.toList = [v2] := by obtain ⟨a_, len_, cap_, rfl⟩ := okWide_slice Try.underlying23 (hval 2 23 v2 rfl rfl); rfl
  obtain ⟨A2, c2, l2, rfl, hc2, hr2, hq2⟩ := arg_slice opens23 one2 h2
  clear hA0 hval0 hsz0
  obtain ⟨kk, hkk⟩ := Pure.PeelOrder (a0) (l1) (l2) w0 hq1 hq2
  refine (mosaiclaw13_PeelOrder.calls kk a0 (fun _ => True) A1 c1 l1 A2 c2 l2 true W ⟨A1, c1, rfl, hc1, fun W_ hW_ => Kd.Heap.C (Kd.heap_slice 3 (Kd.heap_int .i64)) (fun k_ hk_ => hW_ k_ trivial hk_) hr1⟩ hr2 hc2 hkk).mono ?_
  rintro e W' ⟨rfl, hd_⟩
  have bel : Below W.heap.size W W' := hd_
  exact ⟨_, rfl, _, _, _, [], _, [], hW', trodAll_mk1 (shut_bool Try.underlying4 _), (trodAll_cons_mk (shut_int Try.underlying3 w0) (trodAll_cons_mk (Below.trod laidOut (by kernel_rfl) (of_decide_eq_true (by kernel_rfl)) k1 bel lt1) (trodAll_cons_mk (Below.trod laidOut (by kernel_rfl) (of_decide_eq_true (by kernel_rfl)) k2 bel lt2) trodAll_mk0))), rfl, bel.frame _, fun h => by cases h⟩
theorem over : Rows.peelOrderRow.holds Try.pinned (OpenSpec.ofChange Rows.peelOrderSpec) :=
  OpenClaim.holds_of_wide 3 Try.f3 rfl rfl rfl rfl rfl rfl rfl ⟨rfl, rfl, rfl, rfl, rfl⟩ rfl rfl rfl rfl rfl (by kernel_rfl) Try.func3 (by kernel_rfl)
    (of_decide_eq_true (by kernel_rfl)) (by unfold Func.isWrapper; first | (rw [if_pos (by decide +kernel)]; kernel_rfl) | (rw [if_neg (by decide +kernel)]; exact ⟨rfl, rfl⟩))
    (fun os started H enc _ => lifted os started H enc)
theorem proved : Rows.PeelOrderSaid := over
#print axioms proved
end Go.Proofs.Ytnchcapdfmccjaa.peelOrder
namespace Go.Proofs.Ytnchcapdfmccjaa
/-- The row, under a short name, for the claim. -/
theorem peelOrder_holds : Rows.PeelOrderSaid := peelOrder.proved
end Go.Proofs.Ytnchcapdfmccjaa
