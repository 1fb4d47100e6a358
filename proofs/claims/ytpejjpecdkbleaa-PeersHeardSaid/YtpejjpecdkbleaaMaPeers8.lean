/- peers: Meet's refusals. -/
import Derived.Test.YtpejjpecdkbleaaPrK
import Derived.Test.YtpejjpecdkbleaaMaPeers1
import Derived.Test.YtpejjpecdkbleaaMaPeers5
import Derived.Test.YtpejjpecdkbleaaMaPeers7
import Derived.Test.YtpejjpecdkbleaaMaPeers7
import Derived.IntWalk
import Derived.BigQuiet
import Derived.Deep.QuietTactic
import Derived.Deep.RegionLaw
import Derived.Deep.MidRow
import Derived.RegionTactic
import Derived.StillTailTactics
import Derived.Outline
import Derived.Shelf.GgClosure.Gives
import Derived.Laws.CopyOwn
namespace Go.Proofs.Ytpejjpecdkbleaa.Print
open Go.RowKit Go.Proofs.YtpejjpecdkbleaaW.PrintWords Go.Proofs.YtpejjpecdkbleaaW.PrintLast Go.Proofs.YtpejjpecdkbleaaW.PrintMore
set_option linter.unusedVariables false
set_option linter.unusedSimpArgs false

section
variable {w W W1 W2 : World} {g : Nat} {room tmo : Int} {ps ps' ps1 ps2 : Slots} {bs bs' bs1 bs2 : List Bool}
set_option maxHeartbeats 1600000 in
set_option maxRecDepth 100000 in
theorem Tab.Meet_node (t : Tab w W g room tmo ps bs) (n : Int) (hn : ¬ (1 ≤ n ∧ n ≤ 15)) (x y now : Int) :
    Calls Try.prog 14 #[.pointer (some ⟨g, 0, none⟩), .int .i64 n, .agg #[.int .i64 x, .int .i64 y], .int .i64 now] W fun e W2 => e = .returned (.int .i64 1) ∧ Acted w W W2 g room tmo ps ps bs := by
  have HT := Aside0.mk t
  have HP := Aside0.mk (peer_no n hn)
  clear t hn
  go_enter Try.func14, Try.ntmps14
  have hblk0 : (W.alloc (.cells #[.int .i64 x, .int .i64 y] 30)).heap[W.heap.size]? = some (.cells #[.int .i64 x, .int .i64 y] 30 (0, 0)) := heap_alloc_new W _
  have hb0 : Below W.heap.size W (W.alloc (.cells #[.int .i64 x, .int .i64 y] 30)) := below_alloc (Below.refl W.heap.size W) _
  have hd0 := HT.out.below hb0
  have HBLK := Aside0.mk hblk0
  have HB := Aside0.mk hb0
  have HT0 := Aside0.mk hd0
  clear hblk0 hb0 hd0
  go_wp2_with fail
  refine (HP.out _).mono ?_
  rintro e W2 ⟨rfl, hd⟩
  have hl := HBLK.out
  have HBLK2 := Aside0.mk (blk_below HBLK.out hd.below)
  have HB2 := Aside0.mk (below_step HB.out hd.below)
  have HT2 := Aside0.mk (HT0.out.below hd.below)
  clear hl hd HBLK HB HT0
  have hx0 : W2.cell? ⟨W.heap.size, 0, none⟩ = some (.int .i64 x) := by rw [blk_cell HBLK2.out]; rfl
  have hx1 : W2.cell? ⟨W.heap.size, 1, none⟩ = some (.int .i64 y) := by rw [blk_cell HBLK2.out]; rfl
  go_wp2_with fail
  go_ret
  exact ⟨rfl, Acted.refl HT.out HB2.out⟩
set_option maxHeartbeats 1600000 in
set_option maxRecDepth 100000 in
theorem Tab.Meet_place (t : Tab w W g room tmo ps bs) (n : Nat) (h1 : 1 ≤ n) (h2 : n ≤ 15) (x y now : Int) (hc : ¬ ((-1048576 ≤ x ∧ x ≤ 1048576) ∧ (-1048576 ≤ y ∧ y ≤ 1048576))) :
    Calls Try.prog 14 #[.pointer (some ⟨g, 0, none⟩), .int .i64 n, .agg #[.int .i64 x, .int .i64 y], .int .i64 now] W fun e W2 => e = .returned (.int .i64 1) ∧ Acted w W W2 g room tmo ps ps bs := by
  have HT := Aside0.mk t
  have HP := Aside0.mk (peer_yes n h1 h2)
  have HC := Aside0.mk (check_no x y hc)
  clear t hc
  go_enter Try.func14, Try.ntmps14
  have hblk0 : (W.alloc (.cells #[.int .i64 x, .int .i64 y] 30)).heap[W.heap.size]? = some (.cells #[.int .i64 x, .int .i64 y] 30 (0, 0)) := heap_alloc_new W _
  have hb0 : Below W.heap.size W (W.alloc (.cells #[.int .i64 x, .int .i64 y] 30)) := below_alloc (Below.refl W.heap.size W) _
  have hd0 := HT.out.below hb0
  have HBLK := Aside0.mk hblk0
  have HB := Aside0.mk hb0
  have HT0 := Aside0.mk hd0
  clear hblk0 hb0 hd0
  go_wp2_with fail
  refine (HP.out _).mono ?_
  rintro e W2 ⟨rfl, hd⟩
  have hl := HBLK.out
  have HBLK2 := Aside0.mk (blk_below HBLK.out hd.below)
  have HB2 := Aside0.mk (below_step HB.out hd.below)
  have HT2 := Aside0.mk (HT0.out.below hd.below)
  clear hl hd HBLK HB HT0
  have hx0 : W2.cell? ⟨W.heap.size, 0, none⟩ = some (.int .i64 x) := by rw [blk_cell HBLK2.out]; rfl
  have hx1 : W2.cell? ⟨W.heap.size, 1, none⟩ = some (.int .i64 y) := by rw [blk_cell HBLK2.out]; rfl
  go_wp2_with fail
  refine (HC.out _).mono ?_
  rintro e W3 ⟨rfl, hd⟩
  have HBLK3 := Aside0.mk (blk_below HBLK2.out hd)
  have HB3 := Aside0.mk (below_step HB2.out hd)
  have HT3 := Aside0.mk (HT2.out.below hd)
  clear hd HBLK2 HB2 HT2 hx0 hx1
  go_wp2_with fail
  go_ret
  exact ⟨rfl, Acted.refl HT.out HB3.out⟩
set_option maxHeartbeats 1600000 in
set_option maxRecDepth 100000 in
theorem Tab.Meet_now (t : Tab w W g room tmo ps bs) (n : Nat) (h1 : 1 ≤ n) (h2 : n ≤ 15) (x y now : Int) (hc : (-1048576 ≤ x ∧ x ≤ 1048576) ∧ (-1048576 ≤ y ∧ y ≤ 1048576)) (hn : ¬ (0 ≤ now ∧ now ≤ 1099511627776)) :
    Calls Try.prog 14 #[.pointer (some ⟨g, 0, none⟩), .int .i64 n, .agg #[.int .i64 x, .int .i64 y], .int .i64 now] W fun e W2 => e = .returned (.int .i64 1) ∧ Acted w W W2 g room tmo ps ps bs := by
  have HT := Aside0.mk t
  have HP := Aside0.mk (peer_yes n h1 h2)
  have HC := Aside0.mk (check_yes x y hc)
  have HK := Aside0.mk (tick_no now hn)
  clear t hc hn
  go_enter Try.func14, Try.ntmps14
  have hblk0 : (W.alloc (.cells #[.int .i64 x, .int .i64 y] 30)).heap[W.heap.size]? = some (.cells #[.int .i64 x, .int .i64 y] 30 (0, 0)) := heap_alloc_new W _
  have hb0 : Below W.heap.size W (W.alloc (.cells #[.int .i64 x, .int .i64 y] 30)) := below_alloc (Below.refl W.heap.size W) _
  have hd0 := HT.out.below hb0
  have HBLK := Aside0.mk hblk0
  have HB := Aside0.mk hb0
  have HT0 := Aside0.mk hd0
  clear hblk0 hb0 hd0
  go_wp2_with fail
  refine (HP.out _).mono ?_
  rintro e W2 ⟨rfl, hd⟩
  have hl := HBLK.out
  have HBLK2 := Aside0.mk (blk_below HBLK.out hd.below)
  have HB2 := Aside0.mk (below_step HB.out hd.below)
  have HT2 := Aside0.mk (HT0.out.below hd.below)
  clear hl hd HBLK HB HT0
  have hx0 : W2.cell? ⟨W.heap.size, 0, none⟩ = some (.int .i64 x) := by rw [blk_cell HBLK2.out]; rfl
  have hx1 : W2.cell? ⟨W.heap.size, 1, none⟩ = some (.int .i64 y) := by rw [blk_cell HBLK2.out]; rfl
  go_wp2_with fail
  refine (HC.out _).mono ?_
  rintro e W3 ⟨rfl, hd⟩
  have HBLK3 := Aside0.mk (blk_below HBLK2.out hd)
  have HB3 := Aside0.mk (below_step HB2.out hd)
  have HT3 := Aside0.mk (HT2.out.below hd)
  clear hd HBLK2 HB2 HT2 hx0 hx1
  go_wp2_with fail
  refine (HK.out _).mono ?_
  rintro e W4 ⟨rfl, hd⟩
  have HBLK4 := Aside0.mk (blk_below HBLK3.out hd.below)
  have HB4 := Aside0.mk (below_step HB3.out hd.below)
  have HT4 := Aside0.mk (HT3.out.below hd.below)
  clear hd HBLK3 HB3 HT3
  go_wp2_with fail
  go_ret
  exact ⟨rfl, Acted.refl HT.out HB4.out⟩
set_option maxHeartbeats 1600000 in
set_option maxRecDepth 100000 in
theorem Tab.Meet_ban (t : Tab w W g room tmo ps bs) (n : Nat) (h1 : 1 ≤ n) (h2 : n ≤ 15) (x y now : Int) (hc : (-1048576 ≤ x ∧ x ≤ 1048576) ∧ (-1048576 ≤ y ∧ y ≤ 1048576)) (hn : 0 ≤ now ∧ now ≤ 1099511627776) (hb : bs.getD n false = true) :
    Calls Try.prog 14 #[.pointer (some ⟨g, 0, none⟩), .int .i64 n, .agg #[.int .i64 x, .int .i64 y], .int .i64 now] W fun e W2 => e = .returned (.int .i64 10) ∧ Acted w W W2 g room tmo ps ps bs := by
  have HT := Aside0.mk t
  have HP := Aside0.mk (peer_yes n h1 h2)
  have HC := Aside0.mk (check_yes x y hc)
  have HK := Aside0.mk (tick_yes now hn)
  have HBN := Aside0.mk hb
  clear t hc hn hb
  have hnz : (n : Int) < 16 := by omega
  go_enter Try.func14, Try.ntmps14
  have hblk0 : (W.alloc (.cells #[.int .i64 x, .int .i64 y] 30)).heap[W.heap.size]? = some (.cells #[.int .i64 x, .int .i64 y] 30 (0, 0)) := heap_alloc_new W _
  have hb0 : Below W.heap.size W (W.alloc (.cells #[.int .i64 x, .int .i64 y] 30)) := below_alloc (Below.refl W.heap.size W) _
  have hd0 := HT.out.below hb0
  have HBLK := Aside0.mk hblk0
  have HB := Aside0.mk hb0
  have HT0 := Aside0.mk hd0
  clear hblk0 hb0 hd0
  go_wp2_with fail
  refine (HP.out _).mono ?_
  rintro e W2 ⟨rfl, hd⟩
  have hl := HBLK.out
  have HBLK2 := Aside0.mk (blk_below HBLK.out hd.below)
  have HB2 := Aside0.mk (below_step HB.out hd.below)
  have HT2 := Aside0.mk (HT0.out.below hd.below)
  clear hl hd HBLK HB HT0
  have hx0 : W2.cell? ⟨W.heap.size, 0, none⟩ = some (.int .i64 x) := by rw [blk_cell HBLK2.out]; rfl
  have hx1 : W2.cell? ⟨W.heap.size, 1, none⟩ = some (.int .i64 y) := by rw [blk_cell HBLK2.out]; rfl
  go_wp2_with fail
  refine (HC.out _).mono ?_
  rintro e W3 ⟨rfl, hd⟩
  have HBLK3 := Aside0.mk (blk_below HBLK2.out hd)
  have HB3 := Aside0.mk (below_step HB2.out hd)
  have HT3 := Aside0.mk (HT2.out.below hd)
  clear hd HBLK2 HB2 HT2 hx0 hx1
  go_wp2_with fail
  refine (HK.out _).mono ?_
  rintro e W4 ⟨rfl, hd⟩
  have HBLK4 := Aside0.mk (blk_below HBLK3.out hd.below)
  have HB4 := Aside0.mk (below_step HB3.out hd.below)
  have HT4 := Aside0.mk (HT3.out.below hd.below)
  clear hd HBLK3 HB3 HT3
  have cb : W4.cell? ⟨g, 18 + n, none⟩ = some (.bool true) := by rw [HT4.out.ban n (by omega), HBN.out]
  go_wp2_with fail
  go_ret
  exact ⟨rfl, Acted.refl HT.out HB4.out⟩
set_option maxHeartbeats 1600000 in
set_option maxRecDepth 100000 in
theorem Tab.Meet_there (t : Tab w W g room tmo ps bs) (n : Nat) (h1 : 1 ≤ n) (h2 : n ≤ 15) (x y now : Int) (hc : (-1048576 ≤ x ∧ x ≤ 1048576) ∧ (-1048576 ≤ y ∧ y ≤ 1048576)) (hn : 0 ≤ now ∧ now ≤ 1099511627776) (hb : bs.getD n false = false) {b : Nat} {p : Pr} (hp : ps[n]? = some (some (b, p))) :
    Calls Try.prog 14 #[.pointer (some ⟨g, 0, none⟩), .int .i64 n, .agg #[.int .i64 x, .int .i64 y], .int .i64 now] W fun e W2 => e = .returned (.int .i64 5) ∧ Acted w W W2 g room tmo ps ps bs := by
  have HT := Aside0.mk t
  have HP := Aside0.mk (peer_yes n h1 h2)
  have HC := Aside0.mk (check_yes x y hc)
  have HK := Aside0.mk (tick_yes now hn)
  have HBN := Aside0.mk hb
  have HPN := Aside0.mk (show ps.getD n none = some (b, p) by rw [List.getD_eq_getElem?_getD, hp]; rfl)
  clear t hc hn hb hp
  have hnz : (n : Int) < 16 := by omega
  go_enter Try.func14, Try.ntmps14
  have hblk0 : (W.alloc (.cells #[.int .i64 x, .int .i64 y] 30)).heap[W.heap.size]? = some (.cells #[.int .i64 x, .int .i64 y] 30 (0, 0)) := heap_alloc_new W _
  have hb0 : Below W.heap.size W (W.alloc (.cells #[.int .i64 x, .int .i64 y] 30)) := below_alloc (Below.refl W.heap.size W) _
  have hd0 := HT.out.below hb0
  have HBLK := Aside0.mk hblk0
  have HB := Aside0.mk hb0
  have HT0 := Aside0.mk hd0
  clear hblk0 hb0 hd0
  go_wp2_with fail
  refine (HP.out _).mono ?_
  rintro e W2 ⟨rfl, hd⟩
  have hl := HBLK.out
  have HBLK2 := Aside0.mk (blk_below HBLK.out hd.below)
  have HB2 := Aside0.mk (below_step HB.out hd.below)
  have HT2 := Aside0.mk (HT0.out.below hd.below)
  clear hl hd HBLK HB HT0
  have hx0 : W2.cell? ⟨W.heap.size, 0, none⟩ = some (.int .i64 x) := by rw [blk_cell HBLK2.out]; rfl
  have hx1 : W2.cell? ⟨W.heap.size, 1, none⟩ = some (.int .i64 y) := by rw [blk_cell HBLK2.out]; rfl
  go_wp2_with fail
  refine (HC.out _).mono ?_
  rintro e W3 ⟨rfl, hd⟩
  have HBLK3 := Aside0.mk (blk_below HBLK2.out hd)
  have HB3 := Aside0.mk (below_step HB2.out hd)
  have HT3 := Aside0.mk (HT2.out.below hd)
  clear hd HBLK2 HB2 HT2 hx0 hx1
  go_wp2_with fail
  refine (HK.out _).mono ?_
  rintro e W4 ⟨rfl, hd⟩
  have HBLK4 := Aside0.mk (blk_below HBLK3.out hd.below)
  have HB4 := Aside0.mk (below_step HB3.out hd.below)
  have HT4 := Aside0.mk (HT3.out.below hd.below)
  clear hd HBLK3 HB3 HT3
  have cb : W4.cell? ⟨g, 18 + n, none⟩ = some (.bool false) := by rw [HT4.out.ban n (by omega), HBN.out]
  have cs : W4.cell? ⟨g, 2 + n, none⟩ = some (.pointer (some ⟨b, 0, none⟩)) := by rw [HT4.out.slot n (by omega), HPN.out]; rfl
  go_wp2_with fail
  go_ret
  exact ⟨rfl, Acted.refl HT.out HB4.out⟩
set_option maxHeartbeats 1600000 in
set_option maxRecDepth 100000 in
theorem Tab.Meet_full (t : Tab w W g room tmo ps bs) (n : Nat) (h1 : 1 ≤ n) (h2 : n ≤ 15) (x y now : Int) (hc : (-1048576 ≤ x ∧ x ≤ 1048576) ∧ (-1048576 ≤ y ∧ y ≤ 1048576)) (hn : 0 ≤ now ∧ now ≤ 1099511627776) (hb : bs.getD n false = false) (hp : ps.getD n none = none) (hr : room ≤ ((there ps).length : Int)) :
    Calls Try.prog 14 #[.pointer (some ⟨g, 0, none⟩), .int .i64 n, .agg #[.int .i64 x, .int .i64 y], .int .i64 now] W fun e W2 => e = .returned (.int .i64 6) ∧ Acted w W W2 g room tmo ps ps bs := by
  have HT := Aside0.mk t
  have HP := Aside0.mk (peer_yes n h1 h2)
  have HC := Aside0.mk (check_yes x y hc)
  have HK := Aside0.mk (tick_yes now hn)
  have HBN := Aside0.mk hb
  have HPN := Aside0.mk hp
  have HRM := Aside0.mk hr
  clear t hc hn hb hp hr
  have hnz : (n : Int) < 16 := by omega
  go_enter Try.func14, Try.ntmps14
  have hblk0 : (W.alloc (.cells #[.int .i64 x, .int .i64 y] 30)).heap[W.heap.size]? = some (.cells #[.int .i64 x, .int .i64 y] 30 (0, 0)) := heap_alloc_new W _
  have hb0 : Below W.heap.size W (W.alloc (.cells #[.int .i64 x, .int .i64 y] 30)) := below_alloc (Below.refl W.heap.size W) _
  have hd0 := HT.out.below hb0
  have HBLK := Aside0.mk hblk0
  have HB := Aside0.mk hb0
  have HT0 := Aside0.mk hd0
  clear hblk0 hb0 hd0
  go_wp2_with fail
  refine (HP.out _).mono ?_
  rintro e W2 ⟨rfl, hd⟩
  have hl := HBLK.out
  have HBLK2 := Aside0.mk (blk_below HBLK.out hd.below)
  have HB2 := Aside0.mk (below_step HB.out hd.below)
  have HT2 := Aside0.mk (HT0.out.below hd.below)
  clear hl hd HBLK HB HT0
  have hx0 : W2.cell? ⟨W.heap.size, 0, none⟩ = some (.int .i64 x) := by rw [blk_cell HBLK2.out]; rfl
  have hx1 : W2.cell? ⟨W.heap.size, 1, none⟩ = some (.int .i64 y) := by rw [blk_cell HBLK2.out]; rfl
  go_wp2_with fail
  refine (HC.out _).mono ?_
  rintro e W3 ⟨rfl, hd⟩
  have HBLK3 := Aside0.mk (blk_below HBLK2.out hd)
  have HB3 := Aside0.mk (below_step HB2.out hd)
  have HT3 := Aside0.mk (HT2.out.below hd)
  clear hd HBLK2 HB2 HT2 hx0 hx1
  go_wp2_with fail
  refine (HK.out _).mono ?_
  rintro e W4 ⟨rfl, hd⟩
  have HBLK4 := Aside0.mk (blk_below HBLK3.out hd.below)
  have HB4 := Aside0.mk (below_step HB3.out hd.below)
  have HT4 := Aside0.mk (HT3.out.below hd.below)
  clear hd HBLK3 HB3 HT3
  have cb : W4.cell? ⟨g, 18 + n, none⟩ = some (.bool false) := by rw [HT4.out.ban n (by omega), HBN.out]
  have cs : W4.cell? ⟨g, 2 + n, none⟩ = some (.pointer none) := by rw [HT4.out.slot n (by omega), HPN.out]; rfl
  have cr : W4.cell? ⟨g, 0, none⟩ = some (.int .i64 room) := HT4.out.room_
  have hge : room ≤ ((there ps).length : Int) := HRM.out
  have hge2 : decide (room ≤ ((there ps).length : Int)) = true := decide_eq_true hge
  go_wp2_with fail
  go_cut [42] from 43 to 50 (fun v42 wc => v42 = .bool true ∧ Aside0 (Tab w wc g room tmo ps bs) ∧ Aside0 (Below W.heap.size W wc) ∧ Aside0 (wc.heap[W.heap.size]? = some (.cells #[.int .i64 x, .int .i64 y] 30 (0, 0))))
  case first =>
    go_region_law (refine goes_ Try.func22 (by kernel_rfl) rfl #[.pointer (some ⟨g, 0, none⟩)] (by rfl) rfl rfl (by (try simp only [List.map_toArray, List.map_cons, List.map_nil]); first | done | rfl) ?_; refine (Tab.Len_ (HT4.out.below (by repeat (first | (with_reducible first | exact Below.refl _ _ | apply below_alloc | apply pw_below_drewN | apply below_drew1) | exact Below.refl _ _)))).mono ?_; rintro e W7 ⟨rfl, hb7⟩; refine ⟨_, rfl, ?_⟩; have hm7 : Below W4.heap.size W4 W7 := below_step (by repeat (first | (with_reducible first | exact Below.refl _ _ | apply below_alloc | apply pw_below_drewN | apply below_drew1) | exact Below.refl _ _)) hb7; have HT7 := Aside0.mk (HT4.out.below hm7); have HB7 := Aside0.mk (below_step HB4.out hm7); have HBLK7 := Aside0.mk (blk_below HBLK4.out hm7); have cr7 := HT7.out.room_; clear hb7 hm7)
    all_goals
      go_wp2_with fail
      go_meet
      case rel => exact ⟨rfl, HT7, HB7, HBLK7⟩
  case rest =>
    obtain ⟨rfl, HT7, HB7, HBLK7⟩ := hcut
    go_wp2_with fail
    go_ret
    exact ⟨rfl, Acted.refl HT.out HB7.out⟩
end
end Go.Proofs.Ytpejjpecdkbleaa.Print
