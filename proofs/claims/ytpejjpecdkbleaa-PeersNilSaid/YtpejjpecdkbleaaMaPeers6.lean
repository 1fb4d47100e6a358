/- peers: Roll. -/
import Derived.Test.YtpejjpecdkbleaaPrK
import Derived.Test.YtpejjpecdkbleaaMaPeers1
import Derived.Test.YtpejjpecdkbleaaMaPeers5
import Derived.Test.YtpejjpecdkbleaaMaPeers5
import Derived.IntWalk
import Derived.BigQuiet
import Derived.Deep.QuietTactic
import Derived.Deep.RegionLaw
import Derived.Deep.MidRow
import Derived.RegionTactic
import Derived.StillTailTactics
import Derived.Outline
import Derived.Shelf.GgClosure.Gives
import Derived.Laws.CopyOwn
namespace Go.Proofs.Ytpejjpecdkbleaa.Print
open Go.RowKit Go.Proofs.YtpejjpecdkbleaaW.PrintWords Go.Proofs.YtpejjpecdkbleaaW.PrintLast Go.Proofs.YtpejjpecdkbleaaW.PrintMore
set_option linter.unusedVariables false
set_option linter.unusedSimpArgs false

section
variable {w W W1 W2 : World} {g : Nat} {room tmo : Int} {ps ps' ps1 ps2 : Slots} {bs bs' bs1 bs2 : List Bool}
theorem Acted.trans (a : Acted w W W1 g room tmo ps ps1 bs1) (b : Acted w W1 W2 g room tmo ps1 ps2 bs2) (h : ∀ k, Foot g ps1 k → Foot g ps k) : Acted w W W2 g room tmo ps ps2 bs2 := ⟨b.tab, a.kept.then_ b.kept (fun k hk => .inl (h k hk))⟩
theorem foot_set {n b : Nat} {p p' : Pr} (h : ps[n]? = some (some (b, p))) (k : Nat) (hk : Foot g (ps.set n (some (b, p'))) k) : Foot g ps k := by
  rcases hk with rfl | ⟨i, q, hi⟩
  · exact .inl rfl
  · by_cases hin : i = n
    · subst hin
      rw [List.getElem?_set_self (List.getElem?_eq_some_iff.1 h).1] at hi
      simp only [Option.some.injEq, Prod.mk.injEq] at hi
      exact .inr ⟨i, p, by rw [h, hi.1]⟩
    · rw [List.getElem?_set_ne (Ne.symm hin)] at hi
      exact .inr ⟨i, q, hi⟩
def roll1 (p : Pr) : Pr := { p with f7 := 0, f8 := p.f7 }
def rollO (x : Option (Nat × Pr)) : Option (Nat × Pr) := x.map fun bp => (bp.1, roll1 bp.2)
def rollI (ps : Slots) (i : Nat) : Slots := (ps.take i).map rollO ++ ps.drop i
theorem rollI_get (ps : Slots) (i j : Nat) : (rollI ps i)[j]? = if j < i then (ps[j]?).map rollO else ps[j]? := by
  unfold rollI
  by_cases h : j < i
  · rw [if_pos h]
    by_cases hl : j < ps.length
    · rw [List.getElem?_append_left (by rw [List.length_map, List.length_take]; omega), List.getElem?_map, List.getElem?_take_of_lt h]
    · rw [List.getElem?_append_right (by rw [List.length_map, List.length_take]; omega), List.getElem?_drop, List.getElem?_eq_none (by rw [List.length_map, List.length_take]; omega), List.getElem?_eq_none (by omega)]
      rfl
  · rw [if_neg h]
    by_cases hl : i ≤ ps.length
    · rw [List.getElem?_append_right (by rw [List.length_map, List.length_take]; omega), List.length_map, List.length_take, List.getElem?_drop]
      congr 1
      omega
    · rw [List.getElem?_eq_none (by rw [List.length_append, List.length_map, List.length_take, List.length_drop]; omega), List.getElem?_eq_none (by omega)]
theorem rollI_foot (i k : Nat) (hk : Foot g (rollI ps i) k) : Foot g ps k := by
  rcases hk with rfl | ⟨j, q, hj⟩
  · exact .inl rfl
  · rw [rollI_get] at hj
    by_cases h : j < i
    · rw [if_pos h] at hj
      match hx : ps[j]? with
      | none => rw [hx] at hj; exact absurd hj (by simp)
      | some none => rw [hx] at hj; exact absurd hj (by simp [rollO])
      | some (some (b, p)) =>
        rw [hx] at hj
        simp only [rollO, Option.map_some, Option.some.injEq, Prod.mk.injEq] at hj
        exact .inr ⟨j, p, by rw [hx, hj.1]⟩
    · rw [if_neg h] at hj
      exact .inr ⟨j, q, hj⟩
theorem rollI_none {i : Nat} (h : ps[i]? = some none) : rollI ps (i + 1) = rollI ps i := by
  apply List.ext_getElem?
  intro j
  rw [rollI_get, rollI_get]
  by_cases h1 : j < i
  · rw [if_pos h1, if_pos (by omega)]
  · rw [if_neg h1]
    by_cases h2 : j = i
    · subst h2
      rw [if_pos (by omega), h]
      rfl
    · rw [if_neg (by omega)]
theorem rollI_len (ps : Slots) (i : Nat) : (rollI ps i).length = ps.length := by
  unfold rollI
  rw [List.length_append, List.length_map, List.length_take, List.length_drop]
  omega
theorem rollI_some {i b : Nat} {p : Pr} (h : ps[i]? = some (some (b, p))) : rollI ps (i + 1) = (rollI ps i).set i (some (b, roll1 p)) := by
  have hl : i < ps.length := (List.getElem?_eq_some_iff.1 h).1
  apply List.ext_getElem?
  intro j
  by_cases h2 : j = i
  · subst h2
    rw [List.getElem?_set_self (by rw [rollI_len]; exact hl), rollI_get, if_pos (by omega), h]
    rfl
  · rw [List.getElem?_set_ne (Ne.symm h2), rollI_get, rollI_get]
    by_cases h1 : j < i
    · rw [if_pos h1, if_pos (by omega)]
    · rw [if_neg h1, if_neg (by omega)]
theorem rollI_all (h : ps.length = 16) : rollI ps 16 = ps.map rollO := by
  unfold rollI
  rw [List.take_of_length_le (Nat.le_of_eq h), List.drop_eq_nil_of_le (Nat.le_of_eq h), List.append_nil]
theorem set_set_slot {n : Nat} (ps : Slots) (x y : Option (Nat × Pr)) : (ps.set n x).set n y = ps.set n y := by simp
theorem Tab.rolled (t : Tab w W g room tmo ps bs) {i b : Nat} {p : Pr} (h : ps[i]? = some (some (b, p))) : Acted w W ((W.setCell ⟨b, 9, none⟩ (.int .i64 p.f7)).setCell ⟨b, 8, none⟩ (.int .i64 0)) g room tmo ps (ps.set i (some (b, roll1 p))) bs := by
  have a1 := t.wrote h 9 (.int .i64 p.f7) ⟨0, rfl⟩ { p with f8 := p.f7 } rfl rfl
  have hl : i < ps.length := (List.getElem?_eq_some_iff.1 h).1
  have a2 := a1.tab.wrote (List.getElem?_set_self hl) 8 (.int .i64 0) ⟨0, rfl⟩ (roll1 p) rfl rfl
  rw [set_set_slot] at a2
  exact a1.trans a2 (fun k hk => foot_set h k hk)
set_option maxHeartbeats 1600000 in
set_option maxRecDepth 100000 in
theorem Tab.Roll_ (t : Tab w W g room tmo ps bs) : Calls Try.prog 16 #[.pointer (some ⟨g, 0, none⟩)] W fun e W2 => e = .returned (.tuple #[]) ∧ Acted w W W2 g room tmo ps (ps.map rollO) bs := by
  have HT := Aside0.mk t
  clear t
  go_enter Try.func16, Try.ntmps16
  go_wp2_with (refine wpList_load_mid rfl 83 (.tmp 8) rfl g 2 rfl (ps.map ptrOf) _ HT.out.row Try.underlying83 rfl (info83.trans (by rw [HT.out.sixteen])) ?_)
  go_loopg [10] 16 (fun gg v10 wr => ∃ (i : Nat), v10 = .int .i64 i ∧ Aside0 (i + gg = 16) ∧ Aside0 (Acted w W wr g room tmo ps (rollI ps i) bs))
  case atStart => exact ⟨0, rfl, ⟨rfl⟩, ⟨Acted.refl HT.out (Below.refl _ _)⟩⟩
  case round =>
    obtain ⟨i, rfl, HG, HA⟩ := hrel
    by_cases hlt : (i : Int) < 16
    · obtain ⟨gg, rfl⟩ : ∃ m, gk = m + 1 := ⟨gk - 1, by have := HG.out; omega⟩
      have hi : i < 16 := by omega
      have hil : i < ps.length := by rw [HT.out.lp]; exact hi
      cases hp : ps[i]? with
      | none => rw [List.getElem?_eq_none_iff] at hp; omega
      | some x =>
        have hx : (ps.map ptrOf)[i]? = some (ptrOf x) := by rw [List.getElem?_map, hp]; rfl
        have hix := index16 (ps.map ptrOf) HT.out.sixteen i hi _ hx
        clear hx hil
        cases x with
        | none =>
          simp only [ptrOf] at hix
          have HP := Aside0.mk hp
          clear hp
          go_wp2_with fail
          go_roundg gg
          case measure => omega
          case rel => exact ⟨i + 1, rfl, ⟨by have := HG.out; omega⟩, ⟨by rw [rollI_none HP.out]; exact HA.out⟩⟩
        | some bp =>
          obtain ⟨b, p⟩ := bp
          simp only [ptrOf] at hix
          have hpr : (rollI ps i)[i]? = some (some (b, p)) := by rw [rollI_get, if_neg (by omega), hp]
          have c7 : wr.cell? ⟨b, 8, none⟩ = some (.int .i64 p.f7) := HA.out.tab.pcell hpr 8
          have c8 : wr.cell? ⟨b, 9, none⟩ = some (.int .i64 p.f8) := HA.out.tab.pcell hpr 9
          have f7 := HA.out.tab.pfrz hpr 8
          have f8 := HA.out.tab.pfrz hpr 9
          have HP := Aside0.mk hp
          have HR := Aside0.mk hpr
          clear hp hpr
          go_wp2_with fail
          go_roundg gg
          case measure => omega
          case rel => exact ⟨i + 1, rfl, ⟨by have := HG.out; omega⟩, ⟨by rw [rollI_some HP.out]; exact HA.out.trans (HA.out.tab.rolled HR.out) (fun k hk => rollI_foot i k hk)⟩⟩
    · obtain rfl : i = 16 := by have := HG.out; omega
      go_wp2_with fail
      go_end0
      refine ⟨rfl, ?_⟩
      rw [← rollI_all HT.out.lp]
      exact HA.out
end
end Go.Proofs.Ytpejjpecdkbleaa.Print
