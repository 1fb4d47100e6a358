/- peers: List, Len, Roll. -/
import Derived.Test.YtpejjpecdkbleaaPrK
import Derived.Test.YtpejjpecdkbleaaMaPeers1
import Derived.Test.YtpejjpecdkbleaaMaPeers4
import Derived.IntWalk
import Derived.BigQuiet
import Derived.Deep.QuietTactic
import Derived.Deep.RegionLaw
import Derived.Deep.MidRow
import Derived.RegionTactic
import Derived.StillTailTactics
import Derived.Outline
import Derived.Shelf.GgClosure.Gives
import Derived.Laws.CopyOwn
namespace Go.Proofs.Ytpejjpecdkbleaa.Print
open Go.RowKit Go.Proofs.YtpejjpecdkbleaaW.PrintWords Go.Proofs.YtpejjpecdkbleaaW.PrintLast Go.Proofs.YtpejjpecdkbleaaW.PrintMore
set_option linter.unusedVariables false
set_option linter.unusedSimpArgs false

theorem index16' (v0 v1 v2 v3 v4 v5 v6 v7 v8 v9 v10 v11 v12 v13 v14 v15 : Value) (t : Nat) (ht : t < 16) (W : World) : (Instr.index 83 (.agg #[v0, v1, v2, v3, v4, v5, v6, v7, v8, v9, v10, v11, v12, v13, v14, v15]) (.int .i64 (t : Int))).run Try.prog W = .ok ([v0, v1, v2, v3, v4, v5, v6, v7, v8, v9, v10, v11, v12, v13, v14, v15].getD t undef) W := by
  rcases (by omega : t = 0 ∨ t = 1 ∨ t = 2 ∨ t = 3 ∨ t = 4 ∨ t = 5 ∨ t = 6 ∨ t = 7 ∨ t = 8 ∨ t = 9 ∨ t = 10 ∨ t = 11 ∨ t = 12 ∨ t = 13 ∨ t = 14 ∨ t = 15) with rfl | rfl | rfl | rfl | rfl | rfl | rfl | rfl | rfl | rfl | rfl | rfl | rfl | rfl | rfl | rfl <;> kernel_rfl
theorem index16 (cs : List Value) (h : cs.length = 16) (t : Nat) (ht : t < 16) (v : Value) (hv : cs[t]? = some v) (W : World) : (Instr.index 83 (.agg cs.toArray) (.int .i64 (t : Int))).run Try.prog W = .ok v W := by
  match cs, h with
  | [v0, v1, v2, v3, v4, v5, v6, v7, v8, v9, v10, v11, v12, v13, v14, v15], _ =>
    have h2 := index16' v0 v1 v2 v3 v4 v5 v6 v7 v8 v9 v10 v11 v12 v13 v14 v15 t ht W
    rw [List.getD_eq_getElem?_getD, hv] at h2
    exact h2
theorem info83 : (Try.prog.info? 83).map (·.size) = some 16 := by kernel_rfl
theorem infoP : (Try.prog.info? 33).map (fun i => (i.zero, i.size, i.bytes)) = some (some (.agg (peerC z33).toArray), 10, 72) := by kernel_rfl
/-- Who is there. -/
def there (ps : Slots) : List Pr := ps.filterMap fun x => x.map (·.2)
theorem there_some {ps : Slots} {i b : Nat} {p : Pr} (h : ps[i]? = some (some (b, p))) : there (ps.take (i + 1)) = there (ps.take i) ++ [p] := by
  have hi : i < ps.length := (List.getElem?_eq_some_iff.1 h).1
  rw [List.take_succ_eq_append_getElem hi, (List.getElem?_eq_some_iff.1 h).2]
  simp [there]
theorem there_none {ps : Slots} {i : Nat} (h : ps[i]? = some none) : there (ps.take (i + 1)) = there (ps.take i) := by
  have hi : i < ps.length := (List.getElem?_eq_some_iff.1 h).1
  rw [List.take_succ_eq_append_getElem hi, (List.getElem?_eq_some_iff.1 h).2]
  simp [there]
theorem there_len (ps : Slots) : (there ps).length ≤ ps.length := by
  unfold there
  exact List.length_filterMap_le _ _
section
variable {w W W1 W2 : World} {g : Nat} {room tmo : Int} {ps ps' : Slots} {bs bs' : List Bool}
theorem Tab.row (t : Tab w W g room tmo ps bs) : W.rangeAt g 2 (ps.map ptrOf) := fun j v hv => by
  have hl := t.lp
  rw [blk_cell t.blk, show 2 + j = j + 2 by omega]
  have hj : j < (ps.map ptrOf).length := (List.getElem?_eq_some_iff.1 hv).1
  simp only [tabC, List.getElem?_toArray, List.getElem?_cons_succ]
  rw [List.getElem?_append_left hj]
  exact hv
theorem Tab.sixteen (t : Tab w W g room tmo ps bs) : (ps.map ptrOf).length = 16 := by rw [List.length_map]; exact t.lp
set_option maxHeartbeats 1600000 in
set_option maxRecDepth 100000 in
theorem Tab.List_ (t : Tab w W g room tmo ps bs) : Calls Try.prog 21 #[.pointer (some ⟨g, 0, none⟩)] W fun e W2 => ∃ v, e = .returned v ∧ Kd.R k33 33 W2 W.heap.size (fun _ => True) v (there ps) ∧ Below W.heap.size W W2 := by
  have HT := Aside0.mk t
  clear t
  go_enter Try.func21, Try.ntmps21
  go_wp2_with (refine wpList_load_mid rfl 83 (.tmp 10) rfl g 2 rfl (ps.map ptrOf) _ HT.out.row Try.underlying83 rfl (info83.trans (by rw [HT.out.sixteen])) ?_)
  go_loopg [3, 12] 16 (fun gg v3 v12 wr => ∃ (i : Nat), v12 = .int .i64 i ∧ Aside0 (i + gg = 16) ∧ Aside0 (Kd.R k33 33 wr W.heap.size (fun _ => True) v3 (there (ps.take i))) ∧ Aside0 (Below W.heap.size W wr))
  case atStart => exact ⟨0, rfl, ⟨rfl⟩, ⟨by rw [List.take_zero]; exact Kd.R_nil _ _ _ _ _⟩, ⟨Below.refl _ _⟩⟩
  case round =>
    obtain ⟨i, rfl, HG, HO, HB⟩ := hrel
    by_cases hlt : (i : Int) < 16
    · obtain ⟨gg, rfl⟩ : ∃ m, gk = m + 1 := ⟨gk - 1, by have := HG.out; omega⟩
      have hi : i < 16 := by omega
      have hil : i < ps.length := by rw [HT.out.lp]; exact hi
      cases hp : ps[i]? with
      | none => rw [List.getElem?_eq_none_iff] at hp; omega
      | some x =>
        have hx : (ps.map ptrOf)[i]? = some (ptrOf x) := by rw [List.getElem?_map, hp]; rfl
        have hix := index16 (ps.map ptrOf) HT.out.sixteen i hi _ hx
        clear hx hil
        cases x with
        | none =>
          simp only [ptrOf] at hix
          have HP := Aside0.mk hp
          clear hp
          go_wp2_with fail
          go_roundg gg
          case measure => omega
          case rel => exact ⟨i + 1, rfl, ⟨by have := HG.out; omega⟩, ⟨by rw [there_none HP.out]; exact HO.out⟩, HB⟩
        | some bp =>
          obtain ⟨b, p⟩ := bp
          simp only [ptrOf] at hix
          have HP := Aside0.mk hp
          clear hp
          obtain ⟨c0, c1, c2, c3, c4, c5, c6, c7, c8, c9⟩ := (HT.out.below HB.out).pcells HP.out
          go_wp2_with (first
            | ((with_reducible refine gate_builtin (b := .append) (xs := #[.tmp 17, .tmp 21]) rfl ?_); at_builtin; refine Kd.R_append k33 (w0 := W) W.heap.size rfl (.tmp 17) (.tmp 21) 48 33 (.agg (peerC z33).toArray) 72 rfl Try.underlying48 infoP rfl (by decide) (by omega) _ (there (ps.take i)) p (peerC p) (fun _ => True) (fun _ => False) rfl rfl ?aP (fun _ hk => hk.elim) ?aF ?aO ?aB ?aS ?aL ?_; (case aP => exact k33_mkM _ _ _ p); (case aB => exact (by repeat (first | (with_reducible first | exact HB.out | apply below_alloc | apply pw_below_drewN | apply below_drew1) | exact HB.out))); (case aF => exact fun _ _ => trivial); (case aO => exact (by (with_reducible repeat (first | apply Kd.R_alloc | apply Kd.R_drewN | apply Kd.R_drew)); exact HO.out)); (case aS => exact (below_size (by repeat (first | (with_reducible first | exact HB.out | apply below_alloc | apply pw_below_drewN | apply below_drew1) | exact HB.out)))); (case aL => have h1 := there_len (ps.take i); have h2 := HT.out.lp; rw [List.length_take] at h1; omega); intro v13 w7 ho hb hg hat; have HO7 := Aside0.mk ho; have HB7 := Aside0.mk hb; clear ho hb hg hat HO HB))
          go_roundg gg
          case measure => omega
          case rel => exact ⟨i + 1, rfl, ⟨by have := HG.out; omega⟩, ⟨by rw [there_some HP.out]; exact HO7.out⟩, HB7⟩
    · obtain rfl : i = 16 := by have := HG.out; omega
      obtain ⟨A3, n3, hv⟩ := Kd.R_slice HO.out
      subst hv
      go_wp2_with fail
      go_ret
      refine ⟨_, rfl, ?_, HB.out⟩
      rw [show there ps = there (ps.take 16) by rw [List.take_of_length_le (Nat.le_of_eq HT.out.lp)]]
      exact HO.out
theorem Tab.Len_ (t : Tab w W g room tmo ps bs) : Calls Try.prog 22 #[.pointer (some ⟨g, 0, none⟩)] W fun e W2 => e = .returned (.int .i64 ((there ps).length : Nat)) ∧ Below W.heap.size W W2 := by
  have HL := Aside0.mk t.List_
  clear t
  go_enter Try.func22, Try.ntmps22
  go_wp2_with fail
  refine HL.out.mono ?_
  rintro e W2 ⟨v, rfl, ho, hb⟩
  obtain ⟨A3, n3, hv⟩ := Kd.R_slice ho
  subst hv
  have HB := Aside0.mk hb
  clear hb ho
  go_wp2_with fail
  go_ret
  exact ⟨rfl, HB.out⟩
end
end Go.Proofs.Ytpejjpecdkbleaa.Print
