/- peers: what is set of one peer. -/
-- ROOT mosaic/mosaiclaw18.PeersPlays
import Derived.Test.YtpejjpecdkbleaaPrK
import Derived.Test.YtpejjpecdkbleaaMaPeers1
import Derived.Test.YtpejjpecdkbleaaMaPeers1
import Derived.IntWalk
import Derived.BigQuiet
import Derived.Deep.QuietTactic
import Derived.Deep.RegionLaw
import Derived.RegionTactic
import Derived.StillTailTactics
import Derived.Outline
import Derived.Shelf.GgClosure.Gives
namespace Go.Proofs.Ytpejjpecdkbleaa.Print
open Go.RowKit Go.Proofs.YtpejjpecdkbleaaW.PrintWords Go.Proofs.YtpejjpecdkbleaaW.PrintLast Go.Proofs.YtpejjpecdkbleaaW.PrintMore
attribute [local go_sem] max2_int min2_int max_two min_two max_three min_three max_four min_four
set_option linter.unusedVariables false
set_option linter.unusedSimpArgs false

/-- One cell was written. -/
def Wrote (W W2 : World) (a : Addr) (v : Value) : Prop := ∃ m, W2 = (W.setCell a v).drewN m
section
variable {w W : World} {g : Nat} {room tmo : Int} {ps : Slots} {bs : List Bool}
theorem Tab.pcell (t : Tab w W g room tmo ps bs) {n b : Nat} {p : Pr} (h : ps[n]? = some (some (b, p))) (k : Nat) : W.cell? ⟨b, k, none⟩ = (peerC p)[k]? := by
  rw [blk_cell (t.node n b p h).1]
  simp
theorem Tab.pfrz (t : Tab w W g room tmo ps bs) {n b : Nat} {p : Pr} (h : ps[n]? = some (some (b, p))) (k : Nat) : W.frozen? ⟨b, k, none⟩ = false := blk_frozen (t.node n b p h).1 k
/-- A peer's cell was written. -/
theorem Tab.wrote (t : Tab w W g room tmo ps bs) {W2 : World} {n b : Nat} {p : Pr} (h : ps[n]? = some (some (b, p))) (k : Nat) (v : Value) (hw : Wrote W W2 ⟨b, k, none⟩ v) (p' : Pr) (hp : peerC p' = (peerC p).set k v) (hf : p'.f0 = p.f0) :
    Acted w W W2 g room tmo ps (ps.set n (some (b, p'))) bs := by
  obtain ⟨m, rfl⟩ := hw
  have hk : KeepBut W ((W.setCell ⟨b, k, none⟩ v).drewN m) b none := keep_drewN (KeepBut.set_ (KeepBut.refl W b none) k v) m
  refine ⟨t.upd h hk (blk_drewN (blk_put (t.node n b p h).1 k v ?_) m) hf (pw_below_drewN (t.bel.setCell (t.node n b p h).2.1 v) m), kept_of_keep hk (.inr ⟨n, p, h⟩)⟩
  rw [hp]
  simp
theorem Tab.with_some (t : Tab w W g room tmo ps bs) (n : Nat) (h1 : 1 ≤ n) (h2 : n ≤ 15) (b : Nat) (p : Pr) (hp : ps[n]? = some (some (b, p))) (cl : Nat) (lb : Array Value) (eg : ∀ args w, (callFunc cl args).run Try.prog w = .ok (.enter cl args) w) (R : World → Prop)
    (hc : ∀ W2, Drawn0 W W2 → Calls Try.prog cl (#[.pointer (some ⟨b, 0, none⟩)] ++ lb) W2 fun e W3 => e = .returned (.tuple #[]) ∧ R W3) :
    Calls Try.prog 49 #[.pointer (some ⟨g, 0, none⟩), .int .i64 n, .func (.func cl) #[] lb] W fun e W3 => e = .returned (.int .i64 0) ∧ R W3 := by
  have hof := t.of_yes n h1 h2
  have hgd : ps.getD n none = some (b, p) := by rw [List.getD_eq_getElem?_getD, hp]; rfl
  rw [hgd] at hof
  have HOF : Aside0 (Calls Try.prog 51 #[.pointer (some ⟨g, 0, none⟩), .int .i64 n] W fun e W2 => e = .returned (.pointer (some ⟨b, 0, none⟩)) ∧ Drawn0 W W2) := ⟨hof⟩
  have HC := Aside0.mk hc
  clear hof hgd hc t hp
  go_enter Try.func49, Try.ntmps49
  go_wp2_with fail
  refine HOF.out.mono ?_
  rintro e W2 ⟨rfl, hd⟩
  have HD := Aside0.mk hd
  clear hd HOF
  go_wp2_with (go_at_fn cl; refine (HC.out _ HD.out).mono ?_; rintro e W3 ⟨rfl, hr⟩)
  go_ret
  exact ⟨rfl, hr⟩
theorem with_none (g : Nat) (n : Int) (cl : Nat) (lb : Array Value) (W : World) (hof : Calls Try.prog 51 #[.pointer (some ⟨g, 0, none⟩), .int .i64 n] W fun e W2 => e = .returned (.pointer none) ∧ Drawn0 W W2) :
    Calls Try.prog 49 #[.pointer (some ⟨g, 0, none⟩), .int .i64 n, .func (.func cl) #[] lb] W fun e W3 => e = .returned (.int .i64 4) ∧ Drawn0 W W3 := by
  have HOF := Aside0.mk hof
  clear hof
  go_enter Try.func49, Try.ntmps49
  go_wp2_with fail
  refine HOF.out.mono ?_
  rintro e W2 ⟨rfl, ⟨m, rfl⟩⟩
  go_wp2_with fail
  go_ret
  exact ⟨rfl, ⟨m, rfl⟩⟩
theorem Tab.Hear_clo (t : Tab w W g room tmo ps bs) {n b : Nat} {p : Pr} (hp : ps[n]? = some (some (b, p))) (c : Nat) (x : Int) (hc : W.cell? ⟨c, 0, none⟩ = some (.int .i64 x)) :
    Calls Try.prog 52 #[.pointer (some ⟨b, 0, none⟩), .pointer (some ⟨c, 0, none⟩)] W fun e W2 => e = .returned (.tuple #[]) ∧ Wrote W W2 ⟨b, 7, none⟩ (.int .i64 (mx p.f6 x)) := by
  have c0 := t.pcell hp 7
  simp only [peerC, List.getElem?_cons_succ, List.getElem?_cons_zero] at c0
  have z0 := t.pfrz hp 7
  clear t hp
  go_enter Try.func52, Try.ntmps52
  (try go_wp2)
  go_region
  all_goals (try go_wp2)
  all_goals (go_end0; first | exact ⟨rfl, 1, by rw [show mx p.f6 x = x by unfold mx; split <;> omega]; rfl⟩ | exact ⟨rfl, 1, by rw [show mx p.f6 x = p.f6 by unfold mx; split <;> omega]; rfl⟩)
theorem Tab.SetHave_clo (t : Tab w W g room tmo ps bs) {n b : Nat} {p : Pr} (hp : ps[n]? = some (some (b, p))) (c : Nat) (x : ByteArray) (hc : W.cell? ⟨c, 0, none⟩ = some (.string x)) :
    Calls Try.prog 61 #[.pointer (some ⟨b, 0, none⟩), .pointer (some ⟨c, 0, none⟩)] W fun e W2 => e = .returned (.tuple #[]) ∧ Wrote W W2 ⟨b, 3, none⟩ (.string x) := by
  have c0 := t.pcell hp 3
  simp only [peerC, List.getElem?_cons_succ, List.getElem?_cons_zero] at c0
  have z0 := t.pfrz hp 3
  clear t hp
  go_enter Try.func61, Try.ntmps61
  go_wp2
  (go_end0; exact ⟨rfl, 0, rfl⟩)
theorem Tab.SetWants_clo (t : Tab w W g room tmo ps bs) {n b : Nat} {p : Pr} (hp : ps[n]? = some (some (b, p))) (c : Nat) (x : Bool) (hc : W.cell? ⟨c, 0, none⟩ = some (.bool x)) :
    Calls Try.prog 62 #[.pointer (some ⟨b, 0, none⟩), .pointer (some ⟨c, 0, none⟩)] W fun e W2 => e = .returned (.tuple #[]) ∧ Wrote W W2 ⟨b, 4, none⟩ (.bool x) := by
  have c0 := t.pcell hp 4
  simp only [peerC, List.getElem?_cons_succ, List.getElem?_cons_zero] at c0
  have z0 := t.pfrz hp 4
  clear t hp
  go_enter Try.func62, Try.ntmps62
  go_wp2
  (go_end0; exact ⟨rfl, 0, rfl⟩)
theorem Tab.SetOpen_clo (t : Tab w W g room tmo ps bs) {n b : Nat} {p : Pr} (hp : ps[n]? = some (some (b, p))) (c : Nat) (x : Bool) (hc : W.cell? ⟨c, 0, none⟩ = some (.bool x)) :
    Calls Try.prog 63 #[.pointer (some ⟨b, 0, none⟩), .pointer (some ⟨c, 0, none⟩)] W fun e W2 => e = .returned (.tuple #[]) ∧ Wrote W W2 ⟨b, 5, none⟩ (.bool x) := by
  have c0 := t.pcell hp 5
  simp only [peerC, List.getElem?_cons_succ, List.getElem?_cons_zero] at c0
  have z0 := t.pfrz hp 5
  clear t hp
  go_enter Try.func63, Try.ntmps63
  go_wp2
  (go_end0; exact ⟨rfl, 0, rfl⟩)
theorem Tab.SetOpens_clo (t : Tab w W g room tmo ps bs) {n b : Nat} {p : Pr} (hp : ps[n]? = some (some (b, p))) (c : Nat) (x : Bool) (hc : W.cell? ⟨c, 0, none⟩ = some (.bool x)) :
    Calls Try.prog 64 #[.pointer (some ⟨b, 0, none⟩), .pointer (some ⟨c, 0, none⟩)] W fun e W2 => e = .returned (.tuple #[]) ∧ Wrote W W2 ⟨b, 6, none⟩ (.bool x) := by
  have c0 := t.pcell hp 6
  simp only [peerC, List.getElem?_cons_succ, List.getElem?_cons_zero] at c0
  have z0 := t.pfrz hp 6
  clear t hp
  go_enter Try.func64, Try.ntmps64
  go_wp2
  (go_end0; exact ⟨rfl, 0, rfl⟩)
theorem Tab.Count_clo (t : Tab w W g room tmo ps bs) {n b : Nat} {p : Pr} (hp : ps[n]? = some (some (b, p))) (c : Nat) (x : Int) (hx : 0 ≤ x ∧ x ≤ 1099511627776) (hq : 0 ≤ p.f7 ∧ p.f7 ≤ 1099511627776) (hc : W.cell? ⟨c, 0, none⟩ = some (.int .i64 x)) :
    Calls Try.prog 50 #[.pointer (some ⟨b, 0, none⟩), .pointer (some ⟨c, 0, none⟩)] W fun e W2 => e = .returned (.tuple #[]) ∧ Wrote W W2 ⟨b, 8, none⟩ (.int .i64 (mn (p.f7 + x) 1099511627776)) := by
  have c0 := t.pcell hp 8
  simp only [peerC, List.getElem?_cons_succ, List.getElem?_cons_zero] at c0
  have z0 := t.pfrz hp 8
  have hov : wrap64 (p.f7 + x) = p.f7 + x := by unfold wrap64; omega
  have hov2 : IntKind.i64.wrap (p.f7 + x) = p.f7 + x := IntWalk.i64_in _ (by omega)
  clear t hp
  go_enter Try.func50, Try.ntmps50
  (try go_wp2)
  go_region
  all_goals (try go_wp2)
  all_goals (go_end0; first | exact ⟨rfl, 1, by rw [show mn (p.f7 + x) 1099511627776 = p.f7 + x by unfold mn; split <;> omega]; rfl⟩ | exact ⟨rfl, 1, by rw [show mn (p.f7 + x) 1099511627776 = 1099511627776 by unfold mn; split <;> omega]; rfl⟩)
end
end Go.Proofs.Ytpejjpecdkbleaa.Print
