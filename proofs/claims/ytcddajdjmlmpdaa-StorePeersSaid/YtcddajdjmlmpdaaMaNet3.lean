/- net: ids: the numbers of some, rising. -/
import Derived.Test.YtcddajdjmlmpdaaPrK
import Derived.Test.YtcddajdjmlmpdaaMaMaps1
import Derived.Test.YtcddajdjmlmpdaaMaNet1
import Derived.Test.YtcddajdjmlmpdaaMaNet2
import Derived.IntWalk
import Derived.BigQuiet
import Derived.Deep.QuietTactic
import Derived.Deep.RegionLaw
import Derived.Deep.RegionHeld3
import Derived.RegionTactic
import Derived.StillTailTactics
import Derived.Outline
import Derived.Laws.CopyOwn
import Derived.Shelf.GgClosure.Gives
namespace Go.Proofs.Ytcddajdjmlmpdaa.Print
open Go.RowKit Go.Proofs.YtcddajdjmlmpdaaW.PrintWords Go.Proofs.YtcddajdjmlmpdaaW.PrintLast Go.Proofs.YtcddajdjmlmpdaaW.PrintMore
open Go.ChangeMaps (setBlock)
open Go.Maps (Keyed)
set_option linter.unusedVariables false
set_option linter.unusedSimpArgs false

section
variable {w W W2 : World} {g b : Nat} {room last : Int} {m : NMs}
theorem entV_split {l1 l2 : List (Value × Value)} {x v : Value} {m : NMs} (h : entV m = l1 ++ (x, v) :: l2) : ∃ a q c, m = a ++ q :: c ∧ l1 = entV a ∧ l2 = entV c ∧ x = .int .i64 q.1 ∧ v = gramV q.2 := by
  unfold entV at h
  obtain ⟨a, r, rfl, h1, h2⟩ := List.map_eq_append_iff.1 h
  obtain ⟨q, c, rfl, h3, h4⟩ := List.map_eq_cons_iff.1 h2
  injection h3 with h5 h6
  exact ⟨a, q, c, rfl, h1.symm, h4.symm, h5.symm, h6.symm⟩
/-- Rows stay where the blocks of cells do. -/
theorem rows_move {α : Type} {d : Kd α} {e : Nat} {base : Nat} {ok : Nat → Prop} {v : Value} {xs : List α} (h : Kd.R d e W base ok v xs) (hk : ∀ (k : Nat) (cells : Array Value) (q : TypeId), W.heap[k]? = some (.cells cells q (0, 0)) → W2.heap[k]? = W.heap[k]?) : Kd.R d e W2 base ok v xs :=
  Kd.R_mono (Kd.R_move (Kd.R_bound h) (fun k hk1 => by
    obtain ⟨_, _, _, q, hq, cells, hc⟩ := hk1
    exact hk k cells q hc)) (fun _ hk => hk.1)
theorem own_cells {α : Type} {d : Kd α} {e : Nat} {base : Nat} {ok : Nat → Prop} {v : Value} {xs : List α} (h : Kd.R d e W base ok v xs) {k : Nat} (hk : v.ownBlock = some k) : ∃ cells q, W.heap[k]? = some (.cells cells q (0, 0)) := by
  obtain ⟨_, _, _, q, hq, cells, hc⟩ := (Kd.R_bound h).1 k hk
  exact ⟨cells, q, hc⟩
theorem iter_grown {r : Nat} {left ms : List (Value × Value)} {v : Value} {xs : List Int} {e base : Nat} {ok : Nat → Prop} (h : IterAt Try.prog 3 W r b ms left) (hr : Kd.R (Kd.int .i64) e W base ok v xs) (hg : W.grownBy W2 v.ownBlock) : IterAt Try.prog 3 W2 r b ms left := by
  obtain ⟨es, clock, seen, c0, hm, hi, _⟩ := id h
  refine h.kept (hg.block b (blk_lt hm.blk) ?_) (hg.block r (blk_lt hi) ?_)
  · intro e1
    obtain ⟨cells, q, hc⟩ := own_cells hr (e1.symm)
    rw [hm.blk] at hc
    cases hc
  · intro e1
    obtain ⟨cells, q, hc⟩ := own_cells hr (e1.symm)
    rw [hi] at hc
    cases hc
/-- Those of some kind, rising. -/
def idsN (p : Gr → Bool) (m : NMs) : List Int := (m.filter fun q => p q.2).map (·.1)
theorem idsN_cons (p : Gr → Bool) (a : NMs) (q : Int × Gr) (c : NMs) : (idsN p (a ++ q :: c)).Perm ((if p q.2 = true then [q.1] else []) ++ idsN p (a ++ c)) := by
  unfold idsN
  rw [List.filter_append, List.filter_cons, List.filter_append, List.map_append, List.map_append]
  by_cases hp : p q.2 = true
  · rw [if_pos hp, if_pos hp, List.map_cons, List.singleton_append]
    exact List.perm_middle
  · rw [if_neg hp, if_neg hp, List.nil_append]
theorem idsN_len (p : Gr → Bool) (m : NMs) : (idsN p m).length ≤ m.length := by
  unfold idsN
  rw [List.length_map]
  exact List.length_filter_le _ _
theorem idsN_rise (p : Gr → Bool) (h : (m.map (·.1)).Pairwise (· < ·)) : (idsN p m).Pairwise (· < ·) := h.sublist (List.filter_sublist.map _)
theorem sort_ids {acc l : List Int} (h : acc.Perm l) (hr : l.Pairwise (· < ·)) : (acc.mergeSort fun x y => decide (x ≤ y)) = l := by
  refine ((List.mergeSort_perm _ _).trans h).eq_of_pairwise (le := fun x y => x ≤ y) ?_ ?_ ?_
  · intro a c _ _ h1 h2
    omega
  · have := List.pairwise_mergeSort (le := fun x y : Int => decide (x ≤ y)) (by intro a b c; simp; omega) (by intro a b; simp; omega) acc
    exact this.imp (fun h => of_decide_eq_true h)
  · exact hr.imp (fun h => by omega)
set_option maxHeartbeats 3200000 in
set_option maxRecDepth 100000 in
theorem NetAt.ids_loop (h : NetAt w W g b room last m) (hm : m.length < 1000000) (cl : Nat) (lb : Array Value) (p : Gr → Bool) (eg : ∀ args w, (callFunc cl args).run Try.prog w = .ok (.enter cl args) w)
    (hc : ∀ (W' : World) (x : Gr), Below W.heap.size W W' → Calls Try.prog cl (#[.agg #[.int .i64 x.f0, .int .i64 x.f1, .string x.f2]] ++ lb) W' fun e W3 => e = .returned (.bool (p x)) ∧ Below W'.heap.size W' W3)
    (hsort : ∀ (W' : World) (v : Value) (acc : List Int), Below W.heap.size W W' → Kd.R (Kd.int .i64) 3 W' W.heap.size (fun _ => True) v acc → acc.length < 1000000 → Calls Try.prog 75 #[v] W' fun e W3 => e = .returned (.tuple #[]) ∧ Kd.R (Kd.int .i64) 3 W3 W.heap.size (fun _ => True) v (acc.mergeSort fun x y => decide (x ≤ y)) ∧ Below W.heap.size W W3) :
    Calls Try.prog 62 #[.pointer (some ⟨g, 0, none⟩), .func (.func cl) #[] lb] W fun e W2 => ∃ v, e = .returned v ∧ Kd.R (Kd.int .i64) 3 W2 W.heap.size (fun _ => True) v (idsN p m) ∧ Below W.heap.size W W2 := by
  have H0 := Aside0.mk h
  have HC := Aside0.mk hc
  have HSO := Aside0.mk hsort
  have k2 := (show W.cell? ⟨g, 2, none⟩ = some (.map (some b)) from blk_cell h.blk 2)
  obtain ⟨o, hrun, hit⟩ := h.map.range Try.underlying108
  have HIT := Aside0.mk hit
  have HB0 := Aside0.mk (below_alloc (Below.refl W.heap.size W) o)
  clear h hc hsort hit
  go_enter Try.func62, Try.ntmps62
  go_wp2_with fail
  generalize W.alloc o = W1 at HIT HB0 ⊢
  go_loopg [5] (m.length + 1) (fun gg v5 wr => ∃ (acc : List Int) (lft : NMs), Aside0 (lft.length < gg) ∧ Aside0 (Kd.R (Kd.int .i64) 3 wr W.heap.size (fun _ => True) v5 acc) ∧ Aside0 (IterAt Try.prog 3 wr W.heap.size b (entV m) (entV lft)) ∧ Aside0 (Below W.heap.size W wr) ∧ Aside0 ((acc ++ idsN p lft).Perm (idsN p m)))
  case atStart => exact ⟨[], m, ⟨by omega⟩, ⟨Kd.R_nil _ _ _ _ _⟩, HIT, HB0, ⟨by rw [List.nil_append]⟩⟩
  case round =>
    clear HIT HB0 hrun
    obtain ⟨acc, lft, HL, HA, HIT, HB, HP⟩ := hrel
    have hrb : W.heap.size ≠ b := Ne.symm (Nat.ne_of_lt H0.out.map.lt)
    have hal : acc.length ≤ m.length := by
      have h1 := HP.out.length_eq
      rw [List.length_append] at h1
      have := idsN_len p m
      omega
    obtain ⟨A5, c5, hv5⟩ := Kd.R_slice HA.out
    subst hv5
    rcases HIT.out.next hrb 0 with ⟨hl0, hn⟩ | ⟨l1, x, v, l2, w1, ob, hl, hw1, hn, hit2, hen⟩
    · have hn' : ∀ ty, (Instr.next (.pointer (some ⟨W.heap.size, 0, none⟩)) false ty).run Try.prog wr = .ok (.tuple #[.bool false]) wr := fun _ => hn
      have hlft : lft = [] := by
        unfold entV at hl0
        exact List.map_eq_nil_iff.1 hl0
      subst hlft
      have HPE := Aside0.mk (show acc.Perm (idsN p m) by
        have := HP.out
        rw [show idsN p [] = [] from rfl, List.append_nil] at this
        exact this)
      have HCALL := Aside0.mk (HSO.out wr _ acc HB.out HA.out (by omega))
      clear hl0 hn HP
      go_wp2_with fail
      refine HCALL.out.mono ?_
      rintro e W3 ⟨rfl, hr, hb⟩
      rw [sort_ids HPE.out (idsN_rise p H0.out.rise)] at hr
      have HR := Aside0.mk hr
      have HB3 := Aside0.mk hb
      clear hr hb
      go_wp2_with fail
      go_ret
      exact ⟨_, rfl, HR.out, HB3.out⟩
    · obtain ⟨a, q, c, rfl, rfl, rfl, rfl, rfl⟩ := entV_split hl
      obtain ⟨gg, rfl⟩ : ∃ z, gk = z + 1 := ⟨gk - 1, by have := HL.out; omega⟩
      have hn' : ∀ ty, (Instr.next (.pointer (some ⟨W.heap.size, 0, none⟩)) false ty).run Try.prog wr = .ok (.tuple #[.bool true, .int .i64 q.1, .agg #[.int .i64 q.2.f0, .int .i64 q.2.f1, .string q.2.f2]]) (setBlock w1 W.heap.size ob) := fun _ => hn
      have hen' : (Instr.entry (.pointer (some ⟨W.heap.size, 0, none⟩))).run Try.prog (setBlock w1 W.heap.size ob) = .ok (.tuple #[.int .i64 q.1, .agg #[.int .i64 q.2.f0, .int .i64 q.2.f1, .string q.2.f2]]) (setBlock w1 W.heap.size ob) := hen
      have HIT2 := Aside0.mk hit2
      have HB2 := Aside0.mk (show Below W.heap.size W (setBlock w1 W.heap.size ob) from setBlock_below (by rcases hw1 with rfl | rfl; exact HB.out; exact HB.out.drew) (Nat.le_refl _) ob)
      have HA2 := Aside0.mk (show Kd.R (Kd.int .i64) 3 (setBlock w1 W.heap.size ob) W.heap.size (fun _ => True) (.slice A5 acc.length c5) acc from rows_move HA.out (fun k cells q' hk => by
        obtain ⟨es, clock, seen, c0, _, hi, _⟩ := HIT.out
        have hne : k ≠ W.heap.size := fun e => by
          rw [e, hi] at hk
          cases hk
        rw [setBlock_ne _ hne]
        rcases hw1 with rfl | rfl <;> rfl))
      clear hn hen hit2 hw1 hl HA HIT HB
      generalize setBlock w1 W.heap.size ob = W5 at hn' hen' HIT2 HB2 HA2 ⊢
      have HCQ := Aside0.mk (fun (W' : World) (hb : Below W.heap.size W W') => HC.out W' q.2 hb)
      cases hpq : p q.2 with
      | false =>
        rw [hpq] at HCQ
        have HPE := Aside0.mk (show (acc ++ idsN p (a ++ c)).Perm (idsN p m) by
          refine (List.Perm.append_left acc ?_).trans HP.out
          have := idsN_cons p a q c
          rw [if_neg (by rw [hpq]; simp), List.nil_append] at this
          exact this.symm)
        clear hpq HP
        go_wp2_with (go_at_fn cl; refine (HCQ.out _ (below_alloc HB2.out _)).mono ?_; rintro e W6 ⟨rfl, hb6⟩; have HB6 := Aside0.mk (below_step (below_alloc (Below.refl W5.heap.size W5) (.cells #[.int .i64 q.2.f0, .int .i64 q.2.f1, .string q.2.f2] 41)) hb6); clear hb6)
        go_roundg gg
        case measure => omega
        case rel => exact ⟨acc, a ++ c, ⟨by have := HL.out; simp at this ⊢; omega⟩, ⟨Kd.R_below HA2.out HB6.out⟩, ⟨by have := HIT2.out.below HB6.out; unfold entV at this ⊢; rw [List.map_append]; exact this⟩, ⟨below_step HB2.out HB6.out⟩, HPE⟩
      | true =>
        rw [hpq] at HCQ
        have HPE := Aside0.mk (show ((acc ++ [q.1]) ++ idsN p (a ++ c)).Perm (idsN p m) by
          rw [List.append_assoc]
          refine (List.Perm.append_left acc ?_).trans HP.out
          have := idsN_cons p a q c
          rw [if_pos hpq] at this
          exact this.symm)
        clear hpq HP
        go_wp2_with (first
          | (go_at_fn cl; refine (HCQ.out _ (below_alloc HB2.out _)).mono ?_; rintro e W6 ⟨rfl, hb6⟩; have HB6 := Aside0.mk (below_step (below_alloc (Below.refl W5.heap.size W5) (.cells #[.int .i64 q.2.f0, .int .i64 q.2.f1, .string q.2.f2] 41)) hb6); have HA6 := Aside0.mk (Kd.R_below HA2.out HB6.out); have HIT6 := Aside0.mk (HIT2.out.below HB6.out); have HBW6 := Aside0.mk (below_step HB2.out HB6.out); clear hb6 HA2 HIT2 HB2)
          | ((with_reducible refine gate_builtin (b := .append) (xs := #[.tmp 23, .tmp 25]) rfl ?_); at_builtin; refine Kd.R_append (Kd.int .i64) (w0 := W6) W.heap.size rfl (.tmp 23) (.tmp 25) 30 3 (.int .i64 0) 8 rfl Try.underlying30 info3 rfl (by decide) (by omega) _ acc q.1 [.int .i64 q.1] (fun _ => True) (fun _ => False) rfl rfl rfl (fun _ hk => hk.elim) (fun _ _ => trivial) ?aO ?aB ?aS ?aL ?_; (case aO => exact HA6.out); (case aB => exact Below.refl _ _); (case aS => exact HBW6.out.size); (case aL => omega); intro v13 w7 ho hb hg hat; have HA7 := Aside0.mk ho; have HIT7 := Aside0.mk (iter_grown HIT6.out HA6.out hg); have HBW7 := Aside0.mk (show Below W.heap.size W w7 from HBW6.out.trans hb); clear ho hb hg hat))
        go_roundg gg
        case measure => omega
        case rel => exact ⟨acc ++ [q.1], a ++ c, ⟨by have := HL.out; simp at this ⊢; omega⟩, HA7, ⟨by have := HIT7.out; unfold entV at this ⊢; rw [List.map_append]; exact this⟩, HBW7, HPE⟩
end
end Go.Proofs.Ytcddajdjmlmpdaa.Print
