/- peers: Meet. -/
import Derived.Test.YtpejjpecdkbleaaPrK
import Derived.Test.YtpejjpecdkbleaaMaPeers1
import Derived.Test.YtpejjpecdkbleaaMaPeers4
import Derived.Test.YtpejjpecdkbleaaMaPeers5
import Derived.Test.YtpejjpecdkbleaaPr47
import Derived.Test.YtpejjpecdkbleaaMaPeers6
import Derived.IntWalk
import Derived.BigQuiet
import Derived.Deep.QuietTactic
import Derived.Deep.RegionLaw
import Derived.Deep.MidRow
import Derived.RegionTactic
import Derived.StillTailTactics
import Derived.Outline
import Derived.Shelf.GgClosure.Gives
import Derived.Laws.CopyOwn
namespace Go.Proofs.Ytpejjpecdkbleaa.Print
open Go.RowKit Go.Proofs.YtpejjpecdkbleaaW.PrintWords Go.Proofs.YtpejjpecdkbleaaW.PrintLast Go.Proofs.YtpejjpecdkbleaaW.PrintMore
set_option linter.unusedVariables false
set_option linter.unusedSimpArgs false

section
variable {w W W1 W2 : World} {g : Nat} {room tmo : Int} {ps ps' ps1 ps2 : Slots} {bs bs' bs1 bs2 : List Bool}
theorem check_yes (x y : Int) (h : (-1048576 ≤ x ∧ x ≤ 1048576) ∧ (-1048576 ≤ y ∧ y ≤ 1048576)) (W : World) : Calls Try.prog 47 #[.agg #[.int .i64 x, .int .i64 y]] W fun e W2 => e = .returned (.bool true) ∧ Below W.heap.size W W2 :=
  plane_Check.calls x y true W (by rw [check_f, decide_eq_true h])
theorem check_no (x y : Int) (h : ¬ ((-1048576 ≤ x ∧ x ≤ 1048576) ∧ (-1048576 ≤ y ∧ y ≤ 1048576))) (W : World) : Calls Try.prog 47 #[.agg #[.int .i64 x, .int .i64 y]] W fun e W2 => e = .returned (.bool false) ∧ Below W.heap.size W W2 :=
  plane_Check.calls x y false W (by rw [check_f, decide_eq_false h])
/-- A peer that has just been met. -/
def met (n x y now : Int) : Pr := { z33 with f0 := n, f1 := ⟨x, y⟩, f6 := now }
theorem Tab.meeting (t : Tab w W g room tmo ps bs) (n : Nat) (hn : n < 16) (p : Pr) (hf : p.f0 = (n : Int)) (m : Nat) : Acted w W (((W.setCell ⟨g, 2 + n, none⟩ (.pointer (some ⟨W.heap.size, 0, none⟩))).alloc (.cells (peerC p).toArray 33)).drewN m) g room tmo ps (ps.set n (some (W.heap.size, p))) bs := by
  have hk := KeepBut.set_ (KeepBut.refl W g none) (2 + n) (.pointer (some ⟨W.heap.size, 0, none⟩))
  have hsz : (W.setCell ⟨g, 2 + n, none⟩ (.pointer (some ⟨W.heap.size, 0, none⟩))).heap.size = W.heap.size := by simp
  have hnl : n < ps.length := by rw [t.lp]; exact hn
  have hbel : Below w.heap.size w (W.setCell ⟨g, 2 + n, none⟩ (.pointer (some ⟨W.heap.size, 0, none⟩))) := t.bel.setCell t.ge _
  have hal := pw_below_drewN (below_alloc (Below.refl (W.setCell ⟨g, 2 + n, none⟩ (.pointer (some ⟨W.heap.size, 0, none⟩))).heap.size (W.setCell ⟨g, 2 + n, none⟩ (.pointer (some ⟨W.heap.size, 0, none⟩)))) (.cells (peerC p).toArray 33)) m
  have hnew := blk_drewN (heap_alloc_new (W.setCell ⟨g, 2 + n, none⟩ (.pointer (some ⟨W.heap.size, 0, none⟩))) (.cells (peerC p).toArray 33)) m
  rw [hsz] at hnew
  have hg : ∀ (i b' : Nat) (q : Pr), (ps.set n (some (W.heap.size, p)))[i]? = some (some (b', q)) → (i = n ∧ b' = W.heap.size ∧ q = p) ∨ (i ≠ n ∧ ps[i]? = some (some (b', q))) := by
    intro i b' q hi
    by_cases hin : i = n
    · subst hin
      rw [List.getElem?_set_self hnl] at hi
      simp only [Option.some.injEq, Prod.mk.injEq] at hi
      exact .inl ⟨rfl, hi.1.symm, hi.2.symm⟩
    · rw [List.getElem?_set_ne (Ne.symm hin)] at hi
      exact .inr ⟨hin, hi⟩
  refine ⟨⟨?_, by rw [List.length_set]; exact t.lp, t.lb, fun i b' q hi => ?_, fun i j b' q1 q2 h1 h2 => ?_, t.ge, below_step hbel hal⟩, (kept_of_keep hk (.inl rfl)).then_ (Kept.of_below hal (fun _ => False)) (fun _ h => h.elim)⟩
  · refine blk_below ?_ hal
    exact blk_put t.blk (2 + n) _ (by rw [← tabC_slot room tmo ps bs n (some (W.heap.size, p)) hnl]; simp [ptrOf])
  · rcases hg i b' q hi with ⟨rfl, rfl, rfl⟩ | ⟨hne, hi2⟩
    · exact ⟨hnew, Nat.le_trans t.ge (Nat.le_of_lt t.lt), hf⟩
    · exact ⟨blk_below (hk.blk (t.node i b' q hi2).1 (t.ne hi2) (by simp)) hal, (t.node i b' q hi2).2⟩
  · rcases hg i b' q1 h1 with ⟨e1, f1, g1⟩ | ⟨n1, k1⟩ <;> rcases hg j b' q2 h2 with ⟨e2, f2, g2⟩ | ⟨n2, k2⟩
    · rw [e1, e2]
    · have := blk_lt (t.node _ _ _ k2).1
      omega
    · have := blk_lt (t.node _ _ _ k1).1
      omega
    · exact t.inj _ _ _ _ _ k1 k2
set_option maxHeartbeats 1600000 in
set_option maxRecDepth 100000 in
theorem Tab.Meet_yes (t : Tab w W g room tmo ps bs) (n : Nat) (h1 : 1 ≤ n) (h2 : n ≤ 15) (x y now : Int) (hc : (-1048576 ≤ x ∧ x ≤ 1048576) ∧ (-1048576 ≤ y ∧ y ≤ 1048576)) (hn : 0 ≤ now ∧ now ≤ 1099511627776) (hb : bs.getD n false = false) (hp : ps.getD n none = none) (hr : ((there ps).length : Int) < room) :
    Calls Try.prog 14 #[.pointer (some ⟨g, 0, none⟩), .int .i64 n, .agg #[.int .i64 x, .int .i64 y], .int .i64 now] W fun e W2 => e = .returned (.int .i64 0) ∧ ∃ b, Acted w W W2 g room tmo ps (ps.set n (some (b, met n x y now))) bs := by
  have HT := Aside0.mk t
  have HP := Aside0.mk (peer_yes n h1 h2)
  have HC := Aside0.mk (check_yes x y hc)
  have HK := Aside0.mk (tick_yes now hn)
  have HBN := Aside0.mk hb
  have HPN := Aside0.mk hp
  have HRM := Aside0.mk hr
  clear t hc hn hb hp hr
  have hnz : (n : Int) < 16 := by omega
  go_enter Try.func14, Try.ntmps14
  have hblk0 : (W.alloc (.cells #[.int .i64 x, .int .i64 y] 30)).heap[W.heap.size]? = some (.cells #[.int .i64 x, .int .i64 y] 30 (0, 0)) := heap_alloc_new W _
  have hb0 : Below W.heap.size W (W.alloc (.cells #[.int .i64 x, .int .i64 y] 30)) := below_alloc (Below.refl W.heap.size W) _
  have hd0 := HT.out.below hb0
  have HBLK := Aside0.mk hblk0
  have HB := Aside0.mk hb0
  have HT0 := Aside0.mk hd0
  clear hblk0 hb0 hd0
  go_wp2_with fail
  refine (HP.out _).mono ?_
  rintro e W2 ⟨rfl, hd⟩
  have hl := HBLK.out
  have HBLK2 := Aside0.mk (blk_below HBLK.out hd.below)
  have HB2 := Aside0.mk (below_step HB.out hd.below)
  have HT2 := Aside0.mk (HT0.out.below hd.below)
  clear hl hd HBLK HB HT0
  have hx0 : W2.cell? ⟨W.heap.size, 0, none⟩ = some (.int .i64 x) := by rw [blk_cell HBLK2.out]; rfl
  have hx1 : W2.cell? ⟨W.heap.size, 1, none⟩ = some (.int .i64 y) := by rw [blk_cell HBLK2.out]; rfl
  go_wp2_with fail
  refine (HC.out _).mono ?_
  rintro e W3 ⟨rfl, hd⟩
  have HBLK3 := Aside0.mk (blk_below HBLK2.out hd)
  have HB3 := Aside0.mk (below_step HB2.out hd)
  have HT3 := Aside0.mk (HT2.out.below hd)
  clear hd HBLK2 HB2 HT2 hx0 hx1
  go_wp2_with fail
  refine (HK.out _).mono ?_
  rintro e W4 ⟨rfl, hd⟩
  have HBLK4 := Aside0.mk (blk_below HBLK3.out hd.below)
  have HB4 := Aside0.mk (below_step HB3.out hd.below)
  have HT4 := Aside0.mk (HT3.out.below hd.below)
  clear hd HBLK3 HB3 HT3
  have cb : W4.cell? ⟨g, 18 + n, none⟩ = some (.bool false) := by rw [HT4.out.ban n (by omega), HBN.out]
  have cs : W4.cell? ⟨g, 2 + n, none⟩ = some (.pointer none) := by rw [HT4.out.slot n (by omega), HPN.out]; rfl
  have cr : W4.cell? ⟨g, 0, none⟩ = some (.int .i64 room) := HT4.out.room_
  have hge : ¬ room ≤ ((there ps).length : Int) := by have := HRM.out; omega
  have hge2 : decide (room ≤ ((there ps).length : Int)) = false := decide_eq_false hge
  go_wp2_with fail
  go_cut [42] from 43 to 50 (fun v42 wc => v42 = .bool false ∧ Aside0 (Tab w wc g room tmo ps bs) ∧ Aside0 (Below W.heap.size W wc) ∧ Aside0 (wc.heap[W.heap.size]? = some (.cells #[.int .i64 x, .int .i64 y] 30 (0, 0))))
  case first =>
    go_region_law (refine goes_ Try.func22 (by kernel_rfl) rfl #[.pointer (some ⟨g, 0, none⟩)] (by rfl) rfl rfl (by (try simp only [List.map_toArray, List.map_cons, List.map_nil]); first | done | rfl) ?_; refine (Tab.Len_ (HT4.out.below (by repeat (first | (with_reducible first | exact Below.refl _ _ | apply below_alloc | apply pw_below_drewN | apply below_drew1) | exact Below.refl _ _)))).mono ?_; rintro e W7 ⟨rfl, hb7⟩; refine ⟨_, rfl, ?_⟩; have hm7 : Below W4.heap.size W4 W7 := below_step (by repeat (first | (with_reducible first | exact Below.refl _ _ | apply below_alloc | apply pw_below_drewN | apply below_drew1) | exact Below.refl _ _)) hb7; have HT7 := Aside0.mk (HT4.out.below hm7); have HB7 := Aside0.mk (below_step HB4.out hm7); have HBLK7 := Aside0.mk (blk_below HBLK4.out hm7); have cr7 := HT7.out.room_; clear hb7 hm7)
    all_goals
      go_wp2_with fail
      go_meet
      case rel => exact ⟨rfl, HT7, HB7, HBLK7⟩
  case rest =>
    obtain ⟨rfl, HT7, HB7, HBLK7⟩ := hcut
    have hx0 : wc.cell? ⟨W.heap.size, 0, none⟩ = some (.int .i64 x) := by rw [blk_cell HBLK7.out]; rfl
    have hx1 : wc.cell? ⟨W.heap.size, 1, none⟩ = some (.int .i64 y) := by rw [blk_cell HBLK7.out]; rfl
    have cs7 : wc.cell? ⟨g, 2 + n, none⟩ = some (.pointer none) := by rw [HT7.out.slot n (by omega), HPN.out]; rfl
    have fs7 := HT7.out.frz (2 + n)
    have hgl := HT7.out.lt
    have hgn : ¬ g = wc.heap.size := Nat.ne_of_lt hgl
    have hgn2 : ¬ wc.heap.size = g := fun e => hgn e.symm
    go_wp2_with fail
    go_region
    all_goals (try go_wp2_with fail)
    go_ret
    exact ⟨rfl, wc.heap.size, (HT7.out.meeting n (by omega) (met n x y now) rfl 1).after HB7.out⟩
end
end Go.Proofs.Ytpejjpecdkbleaa.Print
