/- peers: Expire. -/
import Derived.Test.YtpejjpecdkbleaaPrK
import Derived.Test.YtpejjpecdkbleaaMaPeers1
import Derived.Test.YtpejjpecdkbleaaMaPeers5
import Derived.Test.YtpejjpecdkbleaaMaPeers8
import Derived.IntWalk
import Derived.BigQuiet
import Derived.Deep.QuietTactic
import Derived.Deep.RegionLaw
import Derived.Deep.MidRow
import Derived.RegionTactic
import Derived.StillTailTactics
import Derived.Outline
import Derived.Shelf.GgClosure.Gives
import Derived.Laws.CopyOwn
namespace Go.Proofs.Ytpejjpecdkbleaa.Print
open Go.RowKit Go.Proofs.YtpejjpecdkbleaaW.PrintWords Go.Proofs.YtpejjpecdkbleaaW.PrintLast Go.Proofs.YtpejjpecdkbleaaW.PrintMore
set_option linter.unusedVariables false
set_option linter.unusedSimpArgs false

def lateB (now tmo : Int) (p : Pr) : Bool := decide (tmo < now - p.f6)
def expO (now tmo : Int) (x : Option (Nat × Pr)) : Option (Nat × Pr) := match x with
  | some bp => if lateB now tmo bp.2 = true then none else some bp
  | none => none
def expI (now tmo : Int) (ps : Slots) (i : Nat) : Slots := (ps.take i).map (expO now tmo) ++ ps.drop i
def goneI (now tmo : Int) (ps : Slots) : Nat → List Int
  | 0 => []
  | i + 1 => goneI now tmo ps i ++ (match ps[i]? with
    | some (some bp) => if lateB now tmo bp.2 = true then [(i : Int)] else []
    | _ => [])
theorem goneI_len (now tmo : Int) (ps : Slots) : ∀ i, (goneI now tmo ps i).length ≤ i
  | 0 => Nat.le_refl _
  | i + 1 => by
    have := goneI_len now tmo ps i
    unfold goneI
    rw [List.length_append]
    split
    · split <;> simp <;> omega
    · simp
      omega
section
variable {w W W1 W2 : World} {g : Nat} {room tmo now : Int} {ps ps' ps1 ps2 : Slots} {bs bs' bs1 bs2 : List Bool}
theorem expI_get (ps : Slots) (i j : Nat) : (expI now tmo ps i)[j]? = if j < i then (ps[j]?).map (expO now tmo) else ps[j]? := by
  unfold expI
  by_cases h : j < i
  · rw [if_pos h]
    by_cases hl : j < ps.length
    · rw [List.getElem?_append_left (by rw [List.length_map, List.length_take]; omega), List.getElem?_map, List.getElem?_take_of_lt h]
    · rw [List.getElem?_append_right (by rw [List.length_map, List.length_take]; omega), List.getElem?_drop, List.getElem?_eq_none (by rw [List.length_map, List.length_take]; omega), List.getElem?_eq_none (by omega)]
      rfl
  · rw [if_neg h]
    by_cases hl : i ≤ ps.length
    · rw [List.getElem?_append_right (by rw [List.length_map, List.length_take]; omega), List.length_map, List.length_take, List.getElem?_drop]
      congr 1
      omega
    · rw [List.getElem?_eq_none (by rw [List.length_append, List.length_map, List.length_take, List.length_drop]; omega), List.getElem?_eq_none (by omega)]
theorem expI_len (ps : Slots) (i : Nat) : (expI now tmo ps i).length = ps.length := by
  unfold expI
  rw [List.length_append, List.length_map, List.length_take, List.length_drop]
  omega
theorem expI_all (h : ps.length = 16) : expI now tmo ps 16 = ps.map (expO now tmo) := by
  unfold expI
  rw [List.take_of_length_le (Nat.le_of_eq h), List.drop_eq_nil_of_le (Nat.le_of_eq h), List.append_nil]
theorem expI_stay {i : Nat} {x : Option (Nat × Pr)} (h : ps[i]? = some x) (hx : expO now tmo x = x) : expI now tmo ps (i + 1) = expI now tmo ps i := by
  apply List.ext_getElem?
  intro j
  rw [expI_get, expI_get]
  by_cases h1 : j < i
  · rw [if_pos h1, if_pos (by omega)]
  · rw [if_neg h1]
    by_cases h2 : j = i
    · subst h2
      rw [if_pos (by omega), h, Option.map_some, hx]
    · rw [if_neg (by omega)]
theorem expI_late {i b : Nat} {p : Pr} (h : ps[i]? = some (some (b, p))) (hx : lateB now tmo p = true) : expI now tmo ps (i + 1) = (expI now tmo ps i).set i none := by
  have hl : i < ps.length := (List.getElem?_eq_some_iff.1 h).1
  apply List.ext_getElem?
  intro j
  by_cases h2 : j = i
  · subst h2
    rw [List.getElem?_set_self (by rw [expI_len]; exact hl), expI_get, if_pos (by omega), h, Option.map_some]
    simp [expO, hx]
  · rw [List.getElem?_set_ne (Ne.symm h2), expI_get, expI_get]
    by_cases h1 : j < i
    · rw [if_pos h1, if_pos (by omega)]
    · rw [if_neg h1, if_neg (by omega)]
theorem goneI_stay {i : Nat} {x : Option (Nat × Pr)} (h : ps[i]? = some x) (hx : expO now tmo x = x) : goneI now tmo ps (i + 1) = goneI now tmo ps i := by
  conv => lhs; unfold goneI
  rw [h]
  cases x with
  | none => simp
  | some bp =>
    simp only [expO] at hx
    split at hx
    · cases hx
    · rename_i hn
      simp [hn]
theorem goneI_late {i b : Nat} {p : Pr} (h : ps[i]? = some (some (b, p))) (hx : lateB now tmo p = true) : goneI now tmo ps (i + 1) = goneI now tmo ps i ++ [(i : Int)] := by
  conv => lhs; unfold goneI
  rw [h]
  simp [hx]
theorem expI_foot (i k : Nat) (hk : Foot g (expI now tmo ps i) k) : Foot g ps k := by
  rcases hk with rfl | ⟨j, q, hj⟩
  · exact .inl rfl
  · rw [expI_get] at hj
    by_cases h : j < i
    · rw [if_pos h] at hj
      match hx : ps[j]? with
      | none => rw [hx] at hj; exact absurd hj (by simp)
      | some none => rw [hx] at hj; exact absurd hj (by simp [expO])
      | some (some (b, p)) =>
        rw [hx] at hj
        simp only [expO, Option.map_some, Option.some.injEq] at hj
        split at hj
        · cases hj
        · simp only [Option.some.injEq, Prod.mk.injEq] at hj
          exact .inr ⟨j, p, by rw [hx, hj.1]⟩
    · rw [if_neg h] at hj
      exact .inr ⟨j, q, hj⟩
theorem Acted.drewN (a : Acted w W W2 g room tmo ps ps' bs') (n : Nat) : Acted w W (W2.drewN n) g room tmo ps ps' bs' := ⟨a.tab.drewN n, a.kept.drewN n⟩
theorem foot_lt (t : Tab w W g room tmo ps bs) (k : Nat) (hk : Foot g ps k) : k < W.heap.size := by
  rcases hk with rfl | ⟨i, p, hi⟩
  · exact t.lt
  · exact blk_lt (t.node i k p hi).1
theorem _root_.Go.Proofs.YtpejjpecdkbleaaW.PrintWords.Kept.lately {S : Nat → Prop} (k : Kept W W1 S) (hb : Below W.heap.size W1 W2) : Kept W W2 S := ⟨Nat.le_trans k.1 hb.size, fun i hi hn => (hb.block i hi).trans (k.2 i hi hn)⟩
/-- Blocks that are new since W were written. -/
theorem Acted.lately (a : Acted w W W1 g room tmo ps ps1 bs1) (t : Tab w W g room tmo ps bs) (hf : ∀ k, Foot g ps1 k → Foot g ps k) (hb : Below W.heap.size W1 W2) : Acted w W W2 g room tmo ps ps1 bs1 :=
  ⟨⟨(hb.block g t.lt).trans a.tab.blk, a.tab.lp, a.tab.lb, fun i b p h => ⟨(hb.block b (foot_lt t b (hf b (.inr ⟨i, p, h⟩)))).trans (a.tab.node i b p h).1, (a.tab.node i b p h).2⟩, a.tab.inj, a.tab.ge, below_weaken a.tab.bel t.bel.size hb⟩, a.kept.lately hb⟩
/-- Times that are times. -/
def Timed (ps : Slots) : Prop := ∀ (i b : Nat) (p : Pr), ps[i]? = some (some (b, p)) → (0 ≤ p.f6 ∧ p.f6 ≤ 1099511627776) ∧ 0 ≤ p.f7 ∧ p.f7 ≤ 1099511627776
set_option maxHeartbeats 1600000 in
set_option maxRecDepth 100000 in
theorem Tab.Expire_yes (t : Tab w W g room tmo ps bs) (ht : Timed ps) (hn : 0 ≤ now ∧ now ≤ 1099511627776) : Calls Try.prog 18 #[.pointer (some ⟨g, 0, none⟩), .int .i64 now] W fun e W2 => ∃ v, e = .returned v ∧ Kd.R (Kd.int .i64) 3 W2 W.heap.size (fun k => k ≠ g) v (goneI now tmo ps 16) ∧ Acted w W W2 g room tmo ps (ps.map (expO now tmo)) bs := by
  have HT := Aside0.mk t
  have HK := Aside0.mk (tick_yes now hn)
  have HN := Aside0.mk hn
  have HTM := Aside0.mk ht
  clear t hn ht
  go_enter Try.func18, Try.ntmps18
  go_wp2_with fail
  refine (HK.out _).mono ?_
  rintro e W3 ⟨rfl, ⟨m3, rfl⟩⟩
  have HA0 := Aside0.mk (show Acted w W (W.drewN m3) g room tmo ps ps bs from Acted.refl HT.out (pw_below_drewN (Below.refl _ _) m3))
  go_wp2_with (refine wpList_load_mid rfl 83 (.tmp 17) rfl g 2 rfl (ps.map ptrOf) _ HA0.out.tab.row Try.underlying83 rfl (info83.trans (by rw [HT.out.sixteen])) ?_)
  go_loopg [5, 19] 16 (fun gg v5 v19 wr => ∃ (i : Nat), v19 = .int .i64 i ∧ Aside0 (i + gg = 16) ∧ Aside0 (Kd.R (Kd.int .i64) 3 wr W.heap.size (fun k => k ≠ g) v5 (goneI now tmo ps i)) ∧ Aside0 (Acted w W wr g room tmo ps (expI now tmo ps i) bs) ∧ Aside0 (Kept W wr (fun k => k = g)))
  case atStart => exact ⟨0, rfl, ⟨rfl⟩, ⟨Kd.R_nil _ _ _ _ _⟩, ⟨HA0.out⟩, ⟨Kept.of_below (pw_below_drewN (Below.refl _ _) m3) _⟩⟩
  case round =>
    clear HA0
    obtain ⟨i, rfl, HG, HO, HA, HKP⟩ := hrel
    by_cases hlt : (i : Int) < 16
    · obtain ⟨gg, rfl⟩ : ∃ m, gk = m + 1 := ⟨gk - 1, by have := HG.out; omega⟩
      have hi : i < 16 := by omega
      have hil : i < ps.length := by rw [HT.out.lp]; exact hi
      cases hp : ps[i]? with
      | none => rw [List.getElem?_eq_none_iff] at hp; omega
      | some x =>
        have hx : (ps.map ptrOf)[i]? = some (ptrOf x) := by rw [List.getElem?_map, hp]; rfl
        have hix := index16 (ps.map ptrOf) HT.out.sixteen i hi _ hx
        clear hx hil
        cases x with
        | none =>
          simp only [ptrOf] at hix
          have HP := Aside0.mk hp
          clear hp
          go_wp2_with fail
          go_quiet (fail)
          go_wp2_with fail
          go_roundg gg
          case measure => omega
          case rel => exact ⟨i + 1, rfl, ⟨by have := HG.out; omega⟩, ⟨by rw [goneI_stay HP.out rfl]; exact HO.out⟩, ⟨by rw [expI_stay HP.out rfl]; exact HA.out.drewN nq⟩, ⟨HKP.out.drewN nq⟩⟩
        | some bp =>
          obtain ⟨b, p⟩ := bp
          simp only [ptrOf] at hix
          have hpr : (expI now tmo ps i)[i]? = some (some (b, p)) := by rw [expI_get, if_neg (by omega), hp]
          have HS := Aside0.mk (show (expI now tmo ps i).getD i none = some (b, p) by rw [List.getD_eq_getElem?_getD, hpr]; rfl)
          have c6 : wr.cell? ⟨b, 7, none⟩ = some (.int .i64 p.f6) := HA.out.tab.pcell hpr 7
          have c1 : wr.cell? ⟨g, 1, none⟩ = some (.int .i64 tmo) := HA.out.tab.tmo_
          have hb6 := (HTM.out i b p hp).1
          have hov : IntKind.i64.wrap (now - p.f6) = now - p.f6 := IntWalk.i64_in _ (by have := HN.out; omega)
          have HP := Aside0.mk hp
          clear hp hpr hb6
          by_cases hL : lateB now tmo p = true
          · have hd : decide (tmo < now - p.f6) = true := hL
            have HL := Aside0.mk hL
            clear hL
            have c2 : wr.cell? ⟨g, 2 + i, none⟩ = some (.pointer (some ⟨b, 0, none⟩)) := by rw [HA.out.tab.slot i hi, HS.out]; rfl
            have f2 : wr.frozen? ⟨g, 2 + i, none⟩ = false := HA.out.tab.frz (2 + i)
            go_wp2_with fail
            go_quiet (fail)
            have HA2 := Aside0.mk ((HA.out.tab.drewN nq).gone hi ⟨0, rfl⟩)
            have HA3 := Aside0.mk (show Acted w W ((wr.drewN nq).setCell ⟨g, 2 + i, none⟩ (.pointer none)) g room tmo ps (expI now tmo ps (i + 1)) bs from by rw [expI_late HP.out HL.out]; exact ⟨HA2.out.tab, HA.out.kept.then_ HA2.out.kept (fun k hk => .inl (expI_foot i k hk))⟩)
            have HK3 := Aside0.mk (show Kept W ((wr.drewN nq).setCell ⟨g, 2 + i, none⟩ (.pointer none)) (fun k => k = g) from (HKP.out.drewN nq).setCell (.inl rfl) _)
            have HO3 := Aside0.mk (Kd.R_far (p := ⟨g, 2 + i, none⟩) (Kd.R_drewN HO.out nq) (fun _ h => h) (.pointer none))
            clear HA2 HA HKP HO
            have HF3 := Aside0.mk (show ∀ k, W.heap.size ≤ k → k ≠ g from fun k hk e => by have := HT.out.lt; omega)
            have HB3 := Aside0.mk (show Below W.heap.size W W from Below.refl _ _)
            have HS3 := Aside0.mk (show W.heap.size ≤ ((wr.drewN nq).setCell ⟨g, 2 + i, none⟩ (.pointer none)).heap.size from HK3.out.1)
            go_wp2_with (first
              | ((with_reducible refine gate_builtin (b := .append) (xs := #[.tmp 43, .tmp 45]) rfl ?_); at_builtin; refine Kd.R_append (Kd.int .i64) (w0 := (wr.drewN nq).setCell ⟨g, 2 + i, none⟩ (.pointer none)) W.heap.size rfl (.tmp 43) (.tmp 45) 22 3 (.int .i64 0) 8 rfl Try.underlying22 info3 rfl (by decide) (by omega) _ (goneI now tmo ps i) (i : Int) [.int .i64 i] (fun k => k ≠ g) (fun _ => False) rfl (by rw [show ((wr.drewN nq).setCell ⟨g, 2 + i, none⟩ (.pointer none)).heap.size = wr.heap.size by simp [World.setCell]]; rfl) ?aP (fun _ hk => hk.elim) ?aF ?aO ?aB ?aS ?aL ?_; (case aP => exact rfl); (case aF => exact fun k hk => HF3.out k (Nat.le_trans HS3.out hk)); (case aO => exact HO3.out); (case aB => exact Below.refl _ _); (case aS => exact HS3.out); (case aL => have h1 := goneI_len now tmo ps i; omega); intro v13 w7 ho hb hg hat; have HO7 := Aside0.mk ho; have HB7 := Aside0.mk hb; have HG7 := Aside0.mk hg; clear ho hb hg hat HO3))
            go_roundg gg
            case measure => omega
            case rel =>
              refine ⟨i + 1, rfl, ⟨by have := HG.out; omega⟩, ⟨by rw [goneI_late HP.out HL.out]; exact HO7.out⟩, ⟨?_⟩, ⟨?_⟩⟩
              · exact HA3.out.lately HT.out (fun k hk => expI_foot (i + 1) k hk) HB7.out
              · exact HK3.out.lately HB7.out
          · have hd : decide (tmo < now - p.f6) = false := by
              unfold lateB at hL
              simpa using hL
            have HL := Aside0.mk hL
            clear hL
            go_wp2_with fail
            go_quiet (fail)
            go_wp2_with fail
            go_roundg gg
            case measure => omega
            case rel => exact ⟨i + 1, rfl, ⟨by have := HG.out; omega⟩, ⟨by rw [goneI_stay HP.out (by simp only [expO]; rw [if_neg HL.out])]; exact HO.out⟩, ⟨by rw [expI_stay HP.out (by simp only [expO]; rw [if_neg HL.out])]; exact HA.out.drewN nq⟩, ⟨HKP.out.drewN nq⟩⟩
    · obtain rfl : i = 16 := by have := HG.out; omega
      obtain ⟨A3, n3, hv⟩ := Kd.R_slice HO.out
      subst hv
      go_wp2_with fail
      go_ret
      exact ⟨_, rfl, HO.out, by rw [← expI_all HT.out.lp]; exact HA.out⟩
theorem Tab.Expire_bad (t : Tab w W g room tmo ps bs) (hn : ¬ (0 ≤ now ∧ now ≤ 1099511627776)) : Calls Try.prog 18 #[.pointer (some ⟨g, 0, none⟩), .int .i64 now] W fun e W2 => e = .returned (.slice none 0 0) ∧ Acted w W W2 g room tmo ps ps bs := by
  have HT := Aside0.mk t
  have HK := Aside0.mk (tick_no now hn)
  clear t hn
  go_enter Try.func18, Try.ntmps18
  go_wp2_with fail
  refine (HK.out _).mono ?_
  rintro e W3 ⟨rfl, ⟨m3, rfl⟩⟩
  go_wp2_with fail
  go_ret
  exact ⟨rfl, Acted.refl HT.out (pw_below_drewN (Below.refl _ _) m3)⟩
end
end Go.Proofs.Ytpejjpecdkbleaa.Print
