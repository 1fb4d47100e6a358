/- peers: New, Leave, Ban, Banned, Get. -/
import Derived.Test.YtpejjpecdkbleaaPrK
import Derived.Test.YtpejjpecdkbleaaMaPeers1
import Derived.Test.YtpejjpecdkbleaaMaPeers2
import Derived.Test.YtpejjpecdkbleaaMaPeers3
import Derived.Test.YtpejjpecdkbleaaMaPeers3
import Derived.IntWalk
import Derived.BigQuiet
import Derived.Deep.QuietTactic
import Derived.Deep.RegionLaw
import Derived.RegionTactic
import Derived.StillTailTactics
import Derived.Outline
import Derived.Shelf.GgClosure.Gives
import Derived.Laws.CopyOwn
namespace Go.Proofs.Ytpejjpecdkbleaa.Print
open Go.RowKit Go.Proofs.YtpejjpecdkbleaaW.PrintWords Go.Proofs.YtpejjpecdkbleaaW.PrintLast Go.Proofs.YtpejjpecdkbleaaW.PrintMore
set_option linter.unusedVariables false
set_option linter.unusedSimpArgs false

theorem tabC_slot (room tmo : Int) (ps : Slots) (bs : List Bool) (n : Nat) (o : Option (Nat × Pr)) (h : n < ps.length) : (tabC room tmo ps bs).set (2 + n) (ptrOf o) = tabC room tmo (ps.set n o) bs := by
  rw [show 2 + n = n + 2 by omega]
  simp only [tabC, List.set_cons_succ]
  rw [List.set_append_left _ _ (by rw [List.length_map]; exact h), List.map_set]
theorem tabC_ban (room tmo : Int) (ps : Slots) (bs : List Bool) (n : Nat) (b : Bool) (h : ps.length = 16) : (tabC room tmo ps bs).set (18 + n) (.bool b) = tabC room tmo ps (bs.set n b) := by
  rw [show 18 + n = (16 + n) + 2 by omega]
  simp only [tabC, List.set_cons_succ]
  rw [List.set_append_right _ _ (by rw [List.length_map]; omega), List.length_map, h, show 16 + n - 16 = n by omega, List.map_set]
def noP : Slots := List.replicate 16 none
def noB : List Bool := List.replicate 16 false
theorem new_yes (room tmo : Int) (w : World) (h : 1 ≤ room ∧ room ≤ 15 ∧ 1 ≤ tmo ∧ tmo ≤ 1099511627776) :
    Calls Try.prog 12 #[.int .i64 room, .int .i64 tmo] w fun e w' => ∃ g, e = .returned (.pointer (some ⟨g, 0, none⟩)) ∧ Tab w w' g room tmo noP noB := by
  obtain ⟨h1, h2, h3, h4⟩ := h
  have hb := heap_alloc_new w (.cells (tabC room tmo noP noB).toArray 85)
  go_enter Try.func12, Try.ntmps12
  go_wp2
  go_ret
  exact ⟨w.heap.size, rfl, hb, rfl, rfl, fun i b p hi => by
    have := List.mem_of_getElem? hi
    simp [noP] at this, fun i j b p q hi _ => by
    have := List.mem_of_getElem? hi
    simp [noP] at this, Nat.le_refl _, below_alloc (Below.refl _ _) _⟩
theorem new_no (room tmo : Int) (w : World) (h : ¬ (1 ≤ room ∧ room ≤ 15 ∧ 1 ≤ tmo ∧ tmo ≤ 1099511627776)) :
    Calls Try.prog 12 #[.int .i64 room, .int .i64 tmo] w fun e w' => e = .returned (.pointer none) ∧ Below w.heap.size w w' := by
  by_cases h1 : room < 1
  · go_enter Try.func12, Try.ntmps12
    go_wp2
    go_ret
    exact ⟨rfl, Below.refl _ _⟩
  by_cases h2 : room > 15
  · go_enter Try.func12, Try.ntmps12
    go_wp2
    go_ret
    exact ⟨rfl, Below.refl _ _⟩
  by_cases h3 : tmo < 1
  · go_enter Try.func12, Try.ntmps12
    go_wp2
    go_ret
    exact ⟨rfl, Below.refl _ _⟩
  · have h4 : tmo > 1099511627776 := by omega
    clear h
    go_enter Try.func12, Try.ntmps12
    go_wp2
    go_ret
    exact ⟨rfl, Below.refl _ _⟩
section
variable {w W W1 W2 : World} {g : Nat} {room tmo : Int} {ps ps' : Slots} {bs bs' : List Bool}
theorem Tab.Leave_clo (t : Tab w W g room tmo ps bs) {n b : Nat} {p : Pr} (hp : ps[n]? = some (some (b, p))) (c : Nat) (hc : W.cell? ⟨c, 0, none⟩ = some (.pointer (some ⟨g, 0, none⟩))) :
    Calls Try.prog 60 #[.pointer (some ⟨b, 0, none⟩), .pointer (some ⟨c, 0, none⟩)] W fun e W2 => e = .returned (.tuple #[]) ∧ Wrote W W2 ⟨g, 2 + n, none⟩ (.pointer none) := by
  have hn : n < 16 := by have := (List.getElem?_eq_some_iff.1 hp).1; have := t.lp; omega
  have c0 := t.pcell hp 0
  simp only [peerC, List.getElem?_cons_zero] at c0
  rw [(t.node n b p hp).2.2] at c0
  have c1 := t.slot n hn
  have z1 := t.frz (2 + n)
  have hnz : (n : Int) < 16 := by omega
  clear t hp
  go_enter Try.func60, Try.ntmps60
  (try go_wp2)
  go_region
  all_goals (try go_wp2)
  all_goals (go_end0; exact ⟨rfl, 1, rfl⟩)
theorem Tab.gone (t : Tab w W g room tmo ps bs) {n : Nat} (hn : n < 16) (hw : Wrote W W2 ⟨g, 2 + n, none⟩ (.pointer none)) : Acted w W W2 g room tmo ps (ps.set n none) bs := by
  obtain ⟨m, rfl⟩ := hw
  have hl := t.lp
  have hk : KeepBut W ((W.setCell ⟨g, 2 + n, none⟩ (.pointer none)).drewN m) g none := keep_drewN (KeepBut.set_ (KeepBut.refl W g none) (2 + n) (.pointer none)) m
  refine ⟨t.drop hk (blk_drewN (blk_put t.blk (2 + n) (.pointer none) ?_) m) (by rw [List.length_set]; exact hl) t.lb (fun i b p hi => ?_) (pw_below_drewN (t.bel.setCell t.ge _) m), kept_of_keep hk (.inl rfl)⟩
  · rw [← tabC_slot room tmo ps bs n none (by omega)]
    simp [ptrOf]
  · by_cases hin : i = n
    · subst hin
      rw [List.getElem?_set_self (by omega)] at hi
      simp at hi
    · rwa [List.getElem?_set_ne (Ne.symm hin)] at hi
theorem Tab.Leave_yes (t : Tab w W g room tmo ps bs) (n : Nat) (h1 : 1 ≤ n) (h2 : n ≤ 15) {b : Nat} {p : Pr} (hp : ps[n]? = some (some (b, p))) :
    Calls Try.prog 27 #[.pointer (some ⟨g, 0, none⟩), .int .i64 n] W fun e W2 => e = .returned (.int .i64 0) ∧ Acted w W W2 g room tmo ps (ps.set n none) bs := by
  have eg : ∀ args w, (callFunc 60 args).run Try.prog w = .ok (.enter 60 args) w := enters_of Try.func60 (by kernel_rfl) rfl
  have EG := Aside0.mk eg
  have HT := Aside0.mk t
  have HP := Aside0.mk hp
  clear t hp eg
  go_enter Try.func27, Try.ntmps27
  go_wp2_with fail
  have hbel : Below W.heap.size W (W.alloc (.cells #[.pointer (some ⟨g, 0, none⟩)] 24)) := below_alloc (Below.refl W.heap.size W) _
  refine ((HT.out.below hbel).with_some n h1 h2 b p HP.out 60 #[.pointer (some ⟨W.heap.size, 0, none⟩)] EG.out (fun W3 => Acted w W W3 g room tmo ps (ps.set n none) bs) ?hc).mono ?_
  case hc =>
    rintro W2 ⟨q, rfl⟩
    refine (((HT.out.below hbel).drewN q).Leave_clo HP.out W.heap.size (by simp)).mono ?_
    rintro e W3 ⟨rfl, hw⟩
    exact ⟨rfl, Acted.after (pw_below_drewN hbel q) (((HT.out.below hbel).drewN q).gone (by omega) hw)⟩
  rintro e W3 ⟨rfl, ha⟩
  have HA := Aside0.mk ha
  clear ha hbel
  go_wp2_with fail
  go_ret
  exact ⟨rfl, HA.out⟩
theorem Tab.Leave_none (t : Tab w W g room tmo ps bs) (n : Int) (h : ¬ (1 ≤ n ∧ n ≤ 15) ∨ ps.getD n.toNat none = none) :
    Calls Try.prog 27 #[.pointer (some ⟨g, 0, none⟩), .int .i64 n] W fun e W2 => e = .returned (.int .i64 4) ∧ Acted w W W2 g room tmo ps ps bs := by
  have HT := Aside0.mk t
  have HN := Aside0.mk h
  clear t h
  go_enter Try.func27, Try.ntmps27
  go_wp2_with fail
  have hbel : Below W.heap.size W (W.alloc (.cells #[.pointer (some ⟨g, 0, none⟩)] 24)) := below_alloc (Below.refl W.heap.size W) _
  refine (with_none g n 60 #[.pointer (some ⟨W.heap.size, 0, none⟩)] _ ((HT.out.below hbel).of_none n HN.out)).mono ?_
  rintro e W3 ⟨rfl, hd⟩
  have HA := Aside0.mk (show Acted w W _ g room tmo ps ps bs from Acted.refl HT.out (below_step hbel (Drawn0.below hd)))
  clear hbel hd
  go_wp2_with fail
  go_ret
  exact ⟨rfl, HA.out⟩
theorem Tab.banned (t : Tab w W g room tmo ps bs) {n : Nat} (hn : n < 16) : Acted w W ((W.setCell ⟨g, 2 + n, none⟩ (.pointer none)).setCell ⟨g, 18 + n, none⟩ (.bool true)) g room tmo ps (ps.set n none) (bs.set n true) := by
  have hl := t.lp
  have hk : KeepBut W ((W.setCell ⟨g, 2 + n, none⟩ (.pointer none)).setCell ⟨g, 18 + n, none⟩ (.bool true)) g none := KeepBut.set_ (KeepBut.set_ (KeepBut.refl W g none) (2 + n) (.pointer none)) (18 + n) (.bool true)
  have hb1 : (W.setCell ⟨g, 2 + n, none⟩ (.pointer none)).heap[g]? = some (.cells (tabC room tmo (ps.set n none) bs).toArray 85 (0, 0)) := blk_put t.blk (2 + n) (.pointer none) (by rw [← tabC_slot room tmo ps bs n none (by omega)]; simp [ptrOf])
  refine ⟨t.drop hk (blk_put hb1 (18 + n) (.bool true) ?_) (by rw [List.length_set]; exact hl) (by rw [List.length_set]; exact t.lb) (fun i b p hi => ?_) ((t.bel.setCell t.ge _).setCell t.ge _), kept_of_keep hk (.inl rfl)⟩
  · rw [← tabC_ban room tmo (ps.set n none) bs n true (by rw [List.length_set]; exact hl)]
    simp
  · by_cases hin : i = n
    · subst hin
      rw [List.getElem?_set_self (by omega)] at hi
      simp at hi
    · rwa [List.getElem?_set_ne (Ne.symm hin)] at hi
theorem Tab.Ban_yes (t : Tab w W g room tmo ps bs) (n : Nat) (h1 : 1 ≤ n) (h2 : n ≤ 15) :
    Calls Try.prog 28 #[.pointer (some ⟨g, 0, none⟩), .int .i64 n] W fun e W2 => e = .returned (.int .i64 0) ∧ Acted w W W2 g room tmo ps (ps.set n none) (bs.set n true) := by
  have HP := Aside0.mk (peer_yes n h1 h2)
  have c1 := t.slot n (by omega)
  have c2 := t.ban n (by omega)
  have z1 := t.frz (2 + n)
  have z2 := t.frz (18 + n)
  have hnz : (n : Int) < 16 := by omega
  have HT := Aside0.mk t
  clear t
  go_enter Try.func28, Try.ntmps28
  go_wp2_with (go_at_call 46; refine (HP.out _).mono ?_; rintro e W2 ⟨rfl, ⟨m, rfl⟩⟩)
  go_region
  all_goals (try go_wp2)
  go_ret
  exact ⟨rfl, Acted.after (pw_below_drewN (Below.refl _ _) (m + 1)) ((HT.out.drewN (m + 1)).banned (by omega))⟩
theorem Tab.Ban_bad (t : Tab w W g room tmo ps bs) (n : Int) (h : ¬ (1 ≤ n ∧ n ≤ 15)) :
    Calls Try.prog 28 #[.pointer (some ⟨g, 0, none⟩), .int .i64 n] W fun e W2 => e = .returned (.int .i64 1) ∧ Acted w W W2 g room tmo ps ps bs := by
  have HP := Aside0.mk (peer_no n h)
  have HT := Aside0.mk t
  clear t h
  go_enter Try.func28, Try.ntmps28
  go_wp2_with (go_at_call 46; refine (HP.out _).mono ?_; rintro e W2 ⟨rfl, ⟨m, rfl⟩⟩)
  go_ret
  exact ⟨rfl, Acted.refl HT.out (pw_below_drewN (Below.refl _ _) m)⟩
theorem Tab.Banned_yes (t : Tab w W g room tmo ps bs) (n : Nat) (h1 : 1 ≤ n) (h2 : n ≤ 15) :
    Calls Try.prog 23 #[.pointer (some ⟨g, 0, none⟩), .int .i64 n] W fun e W2 => e = .returned (.bool (bs.getD n false)) ∧ Below W.heap.size W W2 := by
  have HP := Aside0.mk (peer_yes n h1 h2)
  have c2 := t.ban n (by omega)
  have hnz : (n : Int) < 16 := by omega
  generalize bs.getD n false = x at c2 ⊢
  clear t
  go_enter Try.func23, Try.ntmps23
  go_wp2_with (go_at_call 46; refine (HP.out _).mono ?_; rintro e W2 ⟨rfl, ⟨m, rfl⟩⟩)
  go_ret
  exact ⟨rfl, pw_below_drewN (Below.refl _ _) m⟩
theorem Tab.Banned_no (t : Tab w W g room tmo ps bs) (n : Int) (h : ¬ (1 ≤ n ∧ n ≤ 15)) :
    Calls Try.prog 23 #[.pointer (some ⟨g, 0, none⟩), .int .i64 n] W fun e W2 => e = .returned (.bool false) ∧ Below W.heap.size W W2 := by
  have HP := Aside0.mk (peer_no n h)
  clear t h
  go_enter Try.func23, Try.ntmps23
  go_wp2_with (go_at_call 46; refine (HP.out _).mono ?_; rintro e W2 ⟨rfl, ⟨m, rfl⟩⟩)
  go_ret
  exact ⟨rfl, pw_below_drewN (Below.refl _ _) m⟩
theorem Tab.pcells (t : Tab w W g room tmo ps bs) {n b : Nat} {p : Pr} (h : ps[n]? = some (some (b, p))) :
    W.cell? ⟨b, 0, none⟩ = some (.int .i64 p.f0) ∧ W.cell? ⟨b, 1, none⟩ = some (.int .i64 p.f1.f0) ∧ W.cell? ⟨b, 2, none⟩ = some (.int .i64 p.f1.f1) ∧ W.cell? ⟨b, 3, none⟩ = some (.string p.f2) ∧ W.cell? ⟨b, 4, none⟩ = some (.bool p.f3) ∧ W.cell? ⟨b, 5, none⟩ = some (.bool p.f4) ∧ W.cell? ⟨b, 6, none⟩ = some (.bool p.f5) ∧ W.cell? ⟨b, 7, none⟩ = some (.int .i64 p.f6) ∧ W.cell? ⟨b, 8, none⟩ = some (.int .i64 p.f7) ∧ W.cell? ⟨b, 9, none⟩ = some (.int .i64 p.f8) :=
  ⟨t.pcell h 0, t.pcell h 1, t.pcell h 2, t.pcell h 3, t.pcell h 4, t.pcell h 5, t.pcell h 6, t.pcell h 7, t.pcell h 8, t.pcell h 9⟩
theorem info33z : (Try.prog.info? 33).map (·.size) = some 10 := by kernel_rfl
theorem peer_one (p : Pr) : (peerC p).toArray.all (·.oneCell') = true := by simp [peerC, Value.oneCell']
theorem Tab.Get_yes (t : Tab w W g room tmo ps bs) (n : Nat) (h1 : 1 ≤ n) (h2 : n ≤ 15) {b : Nat} {p : Pr} (hp : ps[n]? = some (some (b, p))) :
    Calls Try.prog 17 #[.pointer (some ⟨g, 0, none⟩), .int .i64 n] W fun e W2 => e = .returned (.tuple #[.agg (peerC p).toArray, .bool true]) ∧ Below W.heap.size W W2 := by
  have hbel : Below W.heap.size W (W.alloc (.cells (peerC z33).toArray 33)) := below_alloc (Below.refl W.heap.size W) _
  have hof := (t.below hbel).of_yes n h1 h2
  have hgd : ps.getD n none = some (b, p) := by rw [List.getD_eq_getElem?_getD, hp]; rfl
  rw [hgd] at hof
  have HOF := Aside0.mk hof
  have hb := (t.node n b p hp).1
  obtain ⟨c0, c1, c2, c3, c4, c5, c6, c7, c8, c9⟩ := t.pcells hp
  have hlt : b < W.heap.size := blk_lt hb
  have hne : ¬ b = W.heap.size := Nat.ne_of_lt hlt
  have hne2 : ¬ W.heap.size = b := fun e => hne e.symm
  clear t hp hof hgd hb hbel
  go_enter Try.func17, Try.ntmps17
  go_wp2_with fail
  refine HOF.out.mono ?_
  rintro e W2 ⟨rfl, ⟨m, rfl⟩⟩
  simp only [ptrOf]
  go_wp2_with (refine wpList_store_row rfl 33 (.tmp 4) (.tmp 15) rfl W.heap.size (peerC p).toArray rfl rfl 33 _ (blk_drewN (heap_alloc_new W _) m) info33z rfl (peer_one p) ?_)
  refine bodyPost_ret (v := .tuple #[.agg (peerC p).toArray, .bool true]) (results_list (rs := [.cell 4 33, .tmp 5]) rfl (by simp) (.cell W.heap.size 33 _ (0, 0) _ rfl (setRow_heap _ _ _ _ _ _ (blk_drewN (heap_alloc_new W _) m)) Try.underlying33 rfl info33z (.tmp .nil))) rfl ?_
  exact ⟨rfl, below_setRow (pw_below_drewN (below_alloc (Below.refl _ _) _) m) (Nat.le_refl _) _⟩
theorem Tab.Get_none (t : Tab w W g room tmo ps bs) (n : Int) (h : ¬ (1 ≤ n ∧ n ≤ 15) ∨ ps.getD n.toNat none = none) :
    Calls Try.prog 17 #[.pointer (some ⟨g, 0, none⟩), .int .i64 n] W fun e W2 => e = .returned (.tuple #[.agg (peerC z33).toArray, .bool false]) ∧ Below W.heap.size W W2 := by
  have hbel : Below W.heap.size W (W.alloc (.cells (peerC z33).toArray 33)) := below_alloc (Below.refl W.heap.size W) _
  have HOF := Aside0.mk ((t.below hbel).of_none n h)
  clear t h hbel
  go_enter Try.func17, Try.ntmps17
  go_wp2_with fail
  refine HOF.out.mono ?_
  rintro e W2 ⟨rfl, ⟨m, rfl⟩⟩
  go_wp2_with (refine wpList_store_row rfl 33 (.tmp 4) _ rfl W.heap.size (peerC z33).toArray rfl rfl 33 _ (blk_drewN (heap_alloc_new W _) m) info33z rfl (peer_one _) ?_)
  refine bodyPost_ret (v := .tuple #[.agg (peerC z33).toArray, .bool false]) (results_list (rs := [.cell 4 33, .tmp 5]) rfl (by simp) (.cell W.heap.size 33 _ (0, 0) _ rfl (setRow_heap _ _ _ _ _ _ (blk_drewN (heap_alloc_new W _) m)) Try.underlying33 rfl info33z (.tmp .nil))) rfl ?_
  exact ⟨rfl, below_setRow (pw_below_drewN (below_alloc (Below.refl _ _) _) m) (Nat.le_refl _) _⟩
end
end Go.Proofs.Ytpejjpecdkbleaa.Print
