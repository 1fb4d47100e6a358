/- The law NetNil, by hand. -/
-- MANUAL mosaic/mosaiclaw21.NetNil making plain
import Derived.Test.YtcddajdjmlmpdaaPrK
import Derived.Test.YtcddajdjmlmpdaaMaNet2
import Derived.Test.YtcddajdjmlmpdaaMaNet4
import Derived.Test.YtcddajdjmlmpdaaPrE41
import Derived.Test.YtcddajdjmlmpdaaMaNet4
import Derived.Test.YtcddajdjmlmpdaaPrE41
import Derived.IntWalk
import Derived.BigQuiet
import Derived.Deep.QuietTactic
import Derived.Deep.RegionLaw
import Derived.Deep.RegionHeld3
import Derived.RegionTactic
import Derived.Outline
import Derived.Laws.CopyOwn
namespace Go.Proofs.Ytcddajdjmlmpdaa.Print
open Go.RowKit Go.Proofs.YtcddajdjmlmpdaaW.PrintWords Go.Proofs.YtcddajdjmlmpdaaW.PrintLast Go.Proofs.YtcddajdjmlmpdaaW.PrintMore
attribute [local go_sem high] eqA41
set_option linter.unusedVariables false
set_option linter.unusedSimpArgs false

def mosaiclaw21_NetNil.f (a0 a1 a2 a3 : Int) (a4 : ByteArray) : Option Bool := some true
set_option maxHeartbeats 4000000 in
set_option maxRecDepth 100000 in
theorem mosaiclaw21_NetNil.calls (kind id from_ to_ : Int) (s : ByteArray) (r : Bool) (w : World) (h : mosaiclaw21_NetNil.f kind id from_ to_ s = some r) :
    Calls Try.prog 7 #[.agg #[.int .i64 kind, .int .i64 id, .int .i64 from_, .int .i64 to_, .string s]] w fun e w' => e = .returned (.bool r) ∧ Below w.heap.size w w' := by
  obtain rfl := Option.some.inj (show some true = some r from h)
  clear h
  have HX := Aside0.mk (heap_alloc_new w (.cells #[.int .i64 kind, .int .i64 id, .int .i64 from_, .int .i64 to_, .string s] 50))
  have HB0 := Aside0.mk (below_alloc (Below.refl w.heap.size w) (.cells #[.int .i64 kind, .int .i64 id, .int .i64 from_, .int .i64 to_, .string s] 50))
  by_cases hs : (500 : Int) < (s.size : Int)
  · have hs1 : (500 < s.size) = True := eq_true (by omega)
    go_enter Try.func7, Try.ntmps7
    go_wp2_with fail
    refine (awake21 _).mono ?_
    rintro e W2 ⟨rfl, hb⟩
    have HB2 := Aside0.mk (below_step HB0.out hb)
    clear hb
    go_wp2_with fail
    go_ret
    exact ⟨rfl, HB2.out⟩
  · have hs0 : ((500 : Int) < (s.size : Int)) = False := eq_false hs
    have hs1 : (500 < s.size) = False := eq_false (by omega)
    clear hs
    go_enter Try.func7, Try.ntmps7
    go_wp2_with fail
    refine (Send_nil ⟨from_, to_, s⟩ _).mono ?_
    rintro e W1 ⟨rfl, hb⟩
    have HX1 := Aside0.mk (blk_below HX.out hb)
    have HB1 := Aside0.mk (below_step HB0.out hb)
    clear hb HX HB0
    have c1 := (show W1.cell? ⟨w.heap.size, 1, none⟩ = some (.int .i64 id) from blk_cell HX1.out 1)
    go_wp2_with fail
    refine (Take_nil id _).mono ?_
    rintro e W2 ⟨rfl, hb⟩
    have HX2 := Aside0.mk (blk_alloc (blk_below HX1.out hb) (.cells #[.int .i64 0, .int .i64 0, .string ⟨#[]⟩] 41))
    have HB2 := Aside0.mk (below_alloc (below_step HB1.out hb) (.cells #[.int .i64 0, .int .i64 0, .string ⟨#[]⟩] 41))
    clear hb HX1 HB1 c1
    have HY2 := Aside0.mk (heap_alloc_new W2 (.cells #[.int .i64 0, .int .i64 0, .string ⟨#[]⟩] 41))
    have c1 := (show (W2.alloc (.cells #[.int .i64 0, .int .i64 0, .string ⟨#[]⟩] 41)).cell? ⟨w.heap.size, 1, none⟩ = some (.int .i64 id) from blk_cell HX2.out 1)
    go_wp2_with fail
    refine (Twice_nil id _).mono ?_
    rintro e W3 ⟨rfl, hb⟩
    have HX3 := Aside0.mk (blk_below HX2.out hb)
    have HY3 := Aside0.mk (blk_below HY2.out hb)
    have HB3 := Aside0.mk (below_step HB2.out hb)
    clear hb HX2 HY2 HB2 c1
    have HXX := Aside0.mk (fun (W' : World) (hb : Below W3.heap.size W3 W') => (And.intro (show W'.cell? ⟨w.heap.size, 1, none⟩ = some (.int .i64 id) from blk_cell (blk_below HX3.out hb) 1) (And.intro (show W'.cell? ⟨W2.heap.size, 0, none⟩ = some (.int .i64 0) from blk_cell (blk_below HY3.out hb) 0) (And.intro (show W'.cell? ⟨W2.heap.size, 1, none⟩ = some (.int .i64 0) from blk_cell (blk_below HY3.out hb) 1) (show W'.cell? ⟨W2.heap.size, 2, none⟩ = some (.string ⟨#[]⟩) from blk_cell (blk_below HY3.out hb) 2)))))
    have HBW := Aside0.mk (Below.refl W3.heap.size W3)
    obtain ⟨c1, y0, y1, y2⟩ := HXX.out W3 (Below.refl _ _)
    go_wp2_with fail
    go_region_held3 (fun w' => w'.cell? ⟨w.heap.size, 1, none⟩ = some (.int .i64 id) ∧ w'.cell? ⟨W2.heap.size, 0, none⟩ = some (.int .i64 0) ∧ w'.cell? ⟨W2.heap.size, 1, none⟩ = some (.int .i64 0) ∧ w'.cell? ⟨W2.heap.size, 2, none⟩ = some (.string ⟨#[]⟩)) (go_keep)
      (first
        | (go_at_call 19; refine (awake21 _).mono ?_; rintro e W_ ⟨he, hb⟩; subst he; have n0 := Aside0.mk (below_step (below_step HBW.out (by repeat (first | (with_reducible first | exact Below.refl _ _ | apply below_alloc | apply pw_below_drewN | apply below_drew1) | exact Below.refl _ _))) hb); clear hb HBW c1 y0 y1 y2; have HBW := n0; clear n0; obtain ⟨c1, y0, y1, y2⟩ := HXX.out _ HBW.out)
        | (go_at_call 24; refine (Nth_nil id _).mono ?_; rintro e W_ ⟨he, hb⟩; subst he; have n0 := Aside0.mk (below_step (below_step HBW.out (by repeat (first | (with_reducible first | exact Below.refl _ _ | apply below_alloc | apply pw_below_drewN | apply below_drew1) | exact Below.refl _ _))) hb); clear hb HBW c1 y0 y1 y2; have HBW := n0; clear n0; obtain ⟨c1, y0, y1, y2⟩ := HXX.out _ HBW.out)
        | (go_at_call 25; refine (Len_nil _).mono ?_; rintro e W_ ⟨he, hb⟩; subst he; have n0 := Aside0.mk (below_step (below_step HBW.out (by repeat (first | (with_reducible first | exact Below.refl _ _ | apply below_alloc | apply pw_below_drewN | apply below_drew1) | exact Below.refl _ _))) hb); clear hb HBW c1 y0 y1 y2; have HBW := n0; clear n0; obtain ⟨c1, y0, y1, y2⟩ := HXX.out _ HBW.out)
        | (go_at_call 27; refine (Lose_nil id _).mono ?_; rintro e W_ ⟨he, hb⟩; subst he; have n0 := Aside0.mk (below_step (below_step HBW.out (by repeat (first | (with_reducible first | exact Below.refl _ _ | apply below_alloc | apply pw_below_drewN | apply below_drew1) | exact Below.refl _ _))) hb); clear hb HBW c1 y0 y1 y2; have HBW := n0; clear n0; obtain ⟨c1, y0, y1, y2⟩ := HXX.out _ HBW.out)
        | (go_at_call 35; refine (List_nil _).mono ?_; rintro e W_ ⟨he, hb⟩; subst he; have n0 := Aside0.mk (below_step (below_step HBW.out (by repeat (first | (with_reducible first | exact Below.refl _ _ | apply below_alloc | apply pw_below_drewN | apply below_drew1) | exact Below.refl _ _))) hb); clear hb HBW c1 y0 y1 y2; have HBW := n0; clear n0; obtain ⟨c1, y0, y1, y2⟩ := HXX.out _ HBW.out)
        | (go_at_call 37; refine (To_nil id _).mono ?_; rintro e W_ ⟨he, hb⟩; subst he; have n0 := Aside0.mk (below_step (below_step HBW.out (by repeat (first | (with_reducible first | exact Below.refl _ _ | apply below_alloc | apply pw_below_drewN | apply below_drew1) | exact Below.refl _ _))) hb); clear hb HBW c1 y0 y1 y2; have HBW := n0; clear n0; obtain ⟨c1, y0, y1, y2⟩ := HXX.out _ HBW.out))
    all_goals
      (try go_wp2_with fail)
      go_ret
      exact ⟨rfl, below_step HB3.out (below_step HBW.out (by repeat (first | (with_reducible first | exact Below.refl _ _ | apply below_alloc | apply pw_below_drewN | apply below_drew1) | exact Below.refl _ _)))⟩
end Go.Proofs.Ytcddajdjmlmpdaa.Print
