/- peers: a table in memory; who is there, what is set. -/
-- ROOT mosaic/mosaiclaw18.PeersPlays
import Derived.Test.YtpejjpecdkbleaaPrK
import Derived.Test.YtpejjpecdkbleaaPr46
import Derived.Test.YtpejjpecdkbleaaPr47
import Derived.Test.YtpejjpecdkbleaaPr48
import Derived.Test.YtpejjpecdkbleaaPr72
import Derived.IntWalk
import Derived.BigQuiet
import Derived.Deep.QuietTactic
import Derived.Deep.RegionLaw
import Derived.RegionTactic
import Derived.StillTailTactics
import Derived.Outline
namespace Go.Proofs.Ytpejjpecdkbleaa.Print
open Go.RowKit Go.Proofs.YtpejjpecdkbleaaW.PrintWords Go.Proofs.YtpejjpecdkbleaaW.PrintLast Go.Proofs.YtpejjpecdkbleaaW.PrintMore
set_option linter.unusedVariables false
set_option linter.unusedSimpArgs false

abbrev Pr := S33
abbrev Slots := List (Option (Nat × Pr))
def ptrOf : Option (Nat × Pr) → Value
  | none => .pointer none
  | some bp => .pointer (some ⟨bp.1, 0, none⟩)
def peerC (p : Pr) : List Value := [.int .i64 p.f0, .int .i64 p.f1.f0, .int .i64 p.f1.f1, .string p.f2, .bool p.f3, .bool p.f4, .bool p.f5, .int .i64 p.f6, .int .i64 p.f7, .int .i64 p.f8]
def tabC (room tmo : Int) (ps : Slots) (bs : List Bool) : List Value := .int .i64 room :: .int .i64 tmo :: (ps.map ptrOf ++ bs.map Value.bool)
/-- A table at block g. -/
structure Tab (w W : World) (g : Nat) (room tmo : Int) (ps : Slots) (bs : List Bool) : Prop where
  blk : W.heap[g]? = some (.cells (tabC room tmo ps bs).toArray 85 (0, 0))
  lp : ps.length = 16
  lb : bs.length = 16
  node : ∀ (i b : Nat) (p : Pr), ps[i]? = some (some (b, p)) → W.heap[b]? = some (.cells (peerC p).toArray 33 (0, 0)) ∧ w.heap.size ≤ b ∧ p.f0 = (i : Int)
  inj : ∀ (i j b : Nat) (p q : Pr), ps[i]? = some (some (b, p)) → ps[j]? = some (some (b, q)) → i = j
  ge : w.heap.size ≤ g
  bel : Below w.heap.size w W
section
variable {w W W2 : World} {g : Nat} {room tmo : Int} {ps : Slots} {bs : List Bool}
theorem Tab.room_ (t : Tab w W g room tmo ps bs) : W.cell? ⟨g, 0, none⟩ = some (.int .i64 room) := by
  rw [blk_cell t.blk]
  simp [tabC]
theorem Tab.tmo_ (t : Tab w W g room tmo ps bs) : W.cell? ⟨g, 1, none⟩ = some (.int .i64 tmo) := by
  rw [blk_cell t.blk]
  simp [tabC]
theorem Tab.slot (t : Tab w W g room tmo ps bs) (n : Nat) (hn : n < 16) : W.cell? ⟨g, 2 + n, none⟩ = some (ptrOf (ps.getD n none)) := by
  have hl := t.lp
  rw [blk_cell t.blk]
  rw [show 2 + n = n + 2 by omega]
  simp only [tabC, List.getElem?_toArray, List.getElem?_cons_succ]
  rw [List.getElem?_append_left (by rw [List.length_map]; omega), List.getElem?_map, List.getElem?_eq_getElem (by omega), List.getD_eq_getElem?_getD, List.getElem?_eq_getElem (by omega)]
  rfl
theorem Tab.ban (t : Tab w W g room tmo ps bs) (n : Nat) (hn : n < 16) : W.cell? ⟨g, 18 + n, none⟩ = some (.bool (bs.getD n false)) := by
  have hl := t.lp
  have hl2 := t.lb
  rw [blk_cell t.blk]
  rw [show 18 + n = (16 + n) + 2 by omega]
  simp only [tabC, List.getElem?_toArray, List.getElem?_cons_succ]
  rw [List.getElem?_append_right (by rw [List.length_map]; omega), List.length_map, hl, show 16 + n - 16 = n by omega, List.getElem?_map, List.getElem?_eq_getElem (by omega), List.getD_eq_getElem?_getD, List.getElem?_eq_getElem (by omega)]
  rfl
theorem Tab.frz (t : Tab w W g room tmo ps bs) (n : Nat) : W.frozen? ⟨g, n, none⟩ = false := blk_frozen t.blk n
theorem Tab.lt (t : Tab w W g room tmo ps bs) : g < W.heap.size := blk_lt t.blk
theorem Tab.ne (t : Tab w W g room tmo ps bs) {i b : Nat} {p : Pr} (h : ps[i]? = some (some (b, p))) : b ≠ g := blk_ne (t.node i b p h).1 t.blk (by decide)
theorem Tab.below (t : Tab w W g room tmo ps bs) (hb : Below W.heap.size W W2) : Tab w W2 g room tmo ps bs :=
  ⟨blk_below t.blk hb, t.lp, t.lb, fun i b p h => ⟨blk_below (t.node i b p h).1 hb, (t.node i b p h).2⟩, t.inj, t.ge, below_step t.bel hb⟩
theorem Tab.drewN (t : Tab w W g room tmo ps bs) (n : Nat) : Tab w (W.drewN n) g room tmo ps bs := t.below (Drawn0.below ⟨n, rfl⟩)
theorem peerC_len (p : Pr) : (peerC p).length = 10 := rfl
/-- One peer's block is another then. -/
theorem Tab.upd (t : Tab w W g room tmo ps bs) {n b : Nat} {p p' : Pr} (h : ps[n]? = some (some (b, p))) (hk : KeepBut W W2 b none) (hb : W2.heap[b]? = some (.cells (peerC p').toArray 33 (0, 0))) (hf : p'.f0 = p.f0) (hbel : Below w.heap.size w W2) :
    Tab w W2 g room tmo (ps.set n (some (b, p'))) bs := by
  have hnl : n < ps.length := (List.getElem?_eq_some_iff.1 h).1
  have hg : ∀ (i b' : Nat) (q : Pr), (ps.set n (some (b, p')))[i]? = some (some (b', q)) → (i = n ∧ b' = b ∧ q = p') ∨ (i ≠ n ∧ ps[i]? = some (some (b', q))) := by
    intro i b' q hi
    by_cases hin : i = n
    · subst hin
      rw [List.getElem?_set_self hnl] at hi
      simp only [Option.some.injEq, Prod.mk.injEq] at hi
      exact .inl ⟨rfl, hi.1.symm, hi.2.symm⟩
    · rw [List.getElem?_set_ne (Ne.symm hin)] at hi
      exact .inr ⟨hin, hi⟩
  refine ⟨?_, by rw [List.length_set]; exact t.lp, t.lb, fun i b' q hi => ?_, fun i j b' q1 q2 h1 h2 => ?_, t.ge, hbel⟩
  · have he : tabC room tmo (ps.set n (some (b, p'))) bs = tabC room tmo ps bs := by
      unfold tabC
      have : (ps.set n (some (b, p'))).map ptrOf = ps.map ptrOf := by
        rw [List.map_set]
        apply List.ext_getElem?
        intro q
        by_cases hq : q = n
        · subst hq
          rw [List.getElem?_set_self (by rw [List.length_map]; exact hnl), List.getElem?_map, h]
          rfl
        · rw [List.getElem?_set_ne (Ne.symm hq)]
      rw [this]
    rw [he]
    exact hk.blk t.blk (Ne.symm (t.ne h)) (by simp)
  · rcases hg i b' q hi with ⟨rfl, rfl, rfl⟩ | ⟨hne, hi2⟩
    · exact ⟨hb, (t.node _ _ _ h).2.1, hf.trans (t.node _ _ _ h).2.2⟩
    · refine ⟨hk.blk (t.node i b' q hi2).1 ?_ (by simp), (t.node i b' q hi2).2⟩
      rintro rfl
      exact hne (t.inj _ _ _ _ _ hi2 h)
  · rcases hg i b' q1 h1 with ⟨e1, f1, g1⟩ | ⟨n1, k1⟩ <;> rcases hg j b' q2 h2 with ⟨e2, f2, g2⟩ | ⟨n2, k2⟩
    · rw [e1, e2]
    · rw [f1] at k2
      rw [e1]
      exact t.inj _ _ _ _ _ h k2
    · rw [f2] at k1
      rw [e2]
      exact t.inj _ _ _ _ _ k1 h
    · exact t.inj _ _ _ _ _ k1 k2
/-- The table's own block is another then: some are gone, some were banned. -/
theorem Tab.drop (t : Tab w W g room tmo ps bs) {ps' : Slots} {bs' : List Bool} (hk : KeepBut W W2 g none) (hb : W2.heap[g]? = some (.cells (tabC room tmo ps' bs').toArray 85 (0, 0))) (hl : ps'.length = 16) (hl2 : bs'.length = 16) (hs : ∀ (i b : Nat) (p : Pr), ps'[i]? = some (some (b, p)) → ps[i]? = some (some (b, p))) (hbel : Below w.heap.size w W2) :
    Tab w W2 g room tmo ps' bs' :=
  ⟨hb, hl, hl2, fun i b p h => ⟨hk.blk (t.node i b p (hs i b p h)).1 (t.ne (hs i b p h)) (by simp), (t.node i b p (hs i b p h)).2⟩, fun i j b p q h1 h2 => t.inj _ _ _ _ _ (hs _ _ _ h1) (hs _ _ _ h2), t.ge, hbel⟩
/-- The blocks that an act on a table may write. -/
def Foot (g : Nat) (ps : Slots) (k : Nat) : Prop := k = g ∨ ∃ (i : Nat) (p : Pr), ps[i]? = some (some (k, p))
/-- What an act leaves. -/
structure Acted (w W W2 : World) (g : Nat) (room tmo : Int) (ps ps' : Slots) (bs' : List Bool) : Prop where
  tab : Tab w W2 g room tmo ps' bs'
  kept : Kept W W2 (Foot g ps)
theorem Acted.refl (t : Tab w W g room tmo ps bs) (hb : Below W.heap.size W W2) : Acted w W W2 g room tmo ps ps bs := ⟨t.below hb, Kept.of_below hb _⟩
theorem kept_of_keep {b : Nat} {S : Nat → Prop} (hk : KeepBut W W2 b none) (hS : S b) : Kept W W2 S := ⟨hk.1, fun i hi hn => hk.2 i hi (fun e => hn (e ▸ hS)) (by simp)⟩
end

/-! ### Who is there -/
theorem peer_f (n : Int) : peers_peer.f n = some (decide (1 ≤ n ∧ n ≤ 15)) := by
  unfold peers_peer.f
  by_cases h : 1 ≤ n
  · rw [if_pos h]
    simp [h]
  · rw [if_neg (by omega)]
    simp [h]
theorem tick_f (n : Int) : peers_tick.f n = some (decide (0 ≤ n ∧ n ≤ 1099511627776)) := by
  unfold peers_tick.f
  by_cases h : 0 ≤ n
  · rw [if_pos h]
    simp [h]
  · rw [if_neg (by omega)]
    simp [h]
theorem check_f (x y : Int) : plane_Check.f x y = some (decide ((-1048576 ≤ x ∧ x ≤ 1048576) ∧ (-1048576 ≤ y ∧ y ≤ 1048576))) := by
  have hw : ∀ z : Int, plane_within.f z = some (decide (-1048576 ≤ z ∧ z ≤ 1048576)) := by
    intro z
    unfold plane_within.f
    by_cases h : -1048576 ≤ z
    · rw [if_pos h]
      simp [h]
    · rw [if_neg (by omega)]
      simp [h]
  unfold plane_Check.f
  rw [hw, hw]
  simp only [Option.bind_some]
  by_cases h : -1048576 ≤ x ∧ x ≤ 1048576
  · rw [decide_eq_true h, if_pos rfl]
    simp [h]
  · rw [decide_eq_false h, if_neg (by simp)]
    simp [h]
theorem peer_yes (n : Nat) (h1 : 1 ≤ n) (h2 : n ≤ 15) (W : World) : Calls Try.prog 46 #[.int .i64 n] W fun e W2 => e = .returned (.bool true) ∧ Drawn0 W W2 :=
  peers_peer.calls n true W (by rw [peer_f, decide_eq_true (by omega)])
theorem peer_no (n : Int) (h : ¬ (1 ≤ n ∧ n ≤ 15)) (W : World) : Calls Try.prog 46 #[.int .i64 n] W fun e W2 => e = .returned (.bool false) ∧ Drawn0 W W2 :=
  peers_peer.calls n false W (by rw [peer_f, decide_eq_false h])
theorem tick_yes (n : Int) (h : 0 ≤ n ∧ n ≤ 1099511627776) (W : World) : Calls Try.prog 48 #[.int .i64 n] W fun e W2 => e = .returned (.bool true) ∧ Drawn0 W W2 :=
  peers_tick.calls n true W (by rw [tick_f, decide_eq_true h])
theorem tick_no (n : Int) (h : ¬ (0 ≤ n ∧ n ≤ 1099511627776)) (W : World) : Calls Try.prog 48 #[.int .i64 n] W fun e W2 => e = .returned (.bool false) ∧ Drawn0 W W2 :=
  peers_tick.calls n false W (by rw [tick_f, decide_eq_false h])
section
variable {w W : World} {g : Nat} {room tmo : Int} {ps : Slots} {bs : List Bool}
theorem Tab.of_yes (t : Tab w W g room tmo ps bs) (n : Nat) (h1 : 1 ≤ n) (h2 : n ≤ 15) : Calls Try.prog 51 #[.pointer (some ⟨g, 0, none⟩), .int .i64 n] W fun e W2 => e = .returned (ptrOf (ps.getD n none)) ∧ Drawn0 W W2 := by
  have hc := t.slot n (by omega)
  have hp := peer_yes n h1 h2
  obtain ⟨u, hu⟩ : ∃ u, ptrOf (ps.getD n none) = .pointer u := by
    cases ps.getD n none with
    | none => exact ⟨_, rfl⟩
    | some bp => exact ⟨_, rfl⟩
  rw [hu] at hc ⊢
  have HP := Aside0.mk hp
  have hn16 : (n : Int) < 16 := by omega
  clear hp t hu
  go_enter Try.func51, Try.ntmps51
  go_wp2_with (go_at_call 46; refine (HP.out _).mono ?_; rintro e W2 ⟨rfl, ⟨m, rfl⟩⟩)
  go_ret
  exact ⟨rfl, ⟨m, rfl⟩⟩
theorem of_no (g : Nat) (n : Int) (h : ¬ (1 ≤ n ∧ n ≤ 15)) (W : World) : Calls Try.prog 51 #[.pointer (some ⟨g, 0, none⟩), .int .i64 n] W fun e W2 => e = .returned (.pointer none) ∧ Drawn0 W W2 := by
  have HP := Aside0.mk (peer_no n h)
  clear h
  go_enter Try.func51, Try.ntmps51
  go_wp2_with (go_at_call 46; refine (HP.out _).mono ?_; rintro e W2 ⟨rfl, ⟨m, rfl⟩⟩)
  go_ret
  exact ⟨rfl, ⟨m, rfl⟩⟩
end
end Go.Proofs.Ytpejjpecdkbleaa.Print
