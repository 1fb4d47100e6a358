/- store: All, DropPeer of a store. -/
import Derived.Test.YtcddajdjmlmpdaaPrK
import Derived.Test.YtcddajdjmlmpdaaMaStore10
import Derived.Test.YtcddajdjmlmpdaaMaStore3
import Derived.Test.YtcddajdjmlmpdaaMaStore4
import Derived.Test.YtcddajdjmlmpdaaMaStore5
import Derived.Test.YtcddajdjmlmpdaaMaStore6
import Derived.Test.YtcddajdjmlmpdaaMaStore8
import Derived.Test.YtcddajdjmlmpdaaMaStore10
import Derived.Test.YtcddajdjmlmpdaaPureW
import Derived.IntWalk
import Derived.BigQuiet
import Derived.Deep.QuietTactic
import Derived.Deep.RegionLaw
import Derived.Deep.RegionHeld3
import Derived.RegionTactic
import Derived.StillTailTactics
import Derived.Outline
import Derived.Laws.CopyOwn
import Derived.Shelf.GgClosure.Gives
namespace Go.Proofs.Ytcddajdjmlmpdaa.Print
open Go.RowKit Go.Proofs.YtcddajdjmlmpdaaW.PrintWords Go.Proofs.YtcddajdjmlmpdaaW.PrintLast Go.Proofs.YtcddajdjmlmpdaaW.PrintMore
open Go.ChangeMaps (setBlock)
open Go.Maps (Keyed)
set_option linter.unusedVariables false
set_option linter.unusedSimpArgs false

theorem keptS_trans {W W1 W2 : World} (h1 : Kept W W1 (FootS W)) (h2 : Kept W1 W2 (FootS W1)) : Kept W W2 (FootS W) := by
  refine ⟨Nat.le_trans h1.1 h2.1, fun i hi hn => ?_⟩
  have e := h1.2 i hi hn
  refine (h2.2 i (Nat.lt_of_lt_of_le hi h1.1) (fun hf => hn ?_)).trans e
  unfold FootS at hf ⊢
  rw [e] at hf
  exact hf
theorem ints_keptS {W W2 : World} {base : Nat} {ok : Nat → Prop} {v : Value} {xs : List Int} (h : Kd.R (Kd.int .i64) 3 W base ok v xs) (hk : Kept W W2 (FootS W)) : Kd.R (Kd.int .i64) 3 W2 base ok v xs :=
  ints_move (e := 0) h (fun k cells hc => hk.2 k (blk_lt hc) (footS_not hc (by decide)))
def dropMany (m : SMs) (l : List Int) : SMs := m.filter fun q => decide (q.1.f0 ∉ l)
theorem dropMany_nil (m : SMs) : dropMany m [] = m := List.filter_eq_self.2 (by simp)
theorem dropMany_snoc (m : SMs) (l : List Int) (id : Int) : dropS (dropMany m l) id = dropMany m (l ++ [id]) := by
  unfold dropS dropMany
  rw [List.filter_filter]
  congr 1
  funext q
  simp [List.mem_append, and_comm, not_or]
theorem dropMany_ids {m : SMs} (hr : (m.map (·.1.f0)).Pairwise (· < ·)) (p : En → Bool) : dropMany m (idsS p m) = m.filter fun q => !p q.1 := by
  unfold dropMany
  refine List.filter_congr (fun q hq => ?_)
  cases hp : p q.1 with
  | true =>
    have : q.1.f0 ∈ idsS p m := List.mem_map.2 ⟨q, List.mem_filter.2 ⟨hq, hp⟩, rfl⟩
    simp [this]
  | false =>
    have : q.1.f0 ∉ idsS p m := fun hm => by
      obtain ⟨q2, hq2, e⟩ := List.mem_map.1 hm
      have h2 := List.mem_filter.1 hq2
      have h3 := atS_mem hr h2.1
      have h4 := atS_mem hr hq
      rw [e, h4] at h3
      have h5 : q = q2 := Option.some.inj h3
      rw [← h5, hp] at h2
      exact absurd h2.2 (by simp)
    simp [this]
section
variable {w W W2 : World} {g b1 b2 : Nat} {room last : Int} {m : SMs}
set_option maxHeartbeats 1600000 in
set_option maxRecDepth 100000 in
theorem StAt.DropPeer_any (h : StAt w W g b1 b2 room last m) (hm : m.length < 1000000) (hl : last < 1000000000) (peer : Int) :
    Calls Try.prog 40 #[.pointer (some ⟨g, 0, none⟩), .int .i64 peer] W fun e W2 => ∃ A c, e = .returned (.slice A (idsS (fun x => x.f1 == peer) m).length c) ∧ Kd.R (Kd.int .i64) 3 W2 W.heap.size (fun _ => True) (.slice A (idsS (fun x => x.f1 == peer) m).length c) (idsS (fun x => x.f1 == peer) m) ∧ StDid w W W2 g b1 b2 room last (m.filter fun q => !(q.1.f1 == peer)) := by
  have HO := Aside0.mk (h.Of_any hm peer)
  have HE := Aside0.mk (dropMany_ids h.rise (fun x => x.f1 == peer))
  have HIN := Aside0.mk (show ∀ id ∈ idsS (fun x => x.f1 == peer) m, (Lit.int .i64 id).wf = true from fun id hid => by
    obtain ⟨q, hq, rfl⟩ := List.mem_map.1 hid
    have := h.top q (List.mem_filter.1 hq).1
    exact Go.WalkArith.wf_i64 (by omega))
  have H0 := Aside0.mk h
  have hll := idsS_len (fun x => x.f1 == peer) m
  clear h
  generalize idsS (fun x => x.f1 == peer) m = l at HO HE HIN hll ⊢
  go_enter Try.func40, Try.ntmps40
  go_wp2_with fail
  refine HO.out.mono ?_
  rintro e W1 ⟨v, rfl, hr, hb⟩
  obtain ⟨A, c, rfl⟩ := Kd.R_slice hr
  have HR := Aside0.mk hr
  have HB := Aside0.mk hb
  clear hr hb HO
  go_wp2_with fail
  go_loopg [13] (l.length + 1) (fun gg v13 wr => ∃ (i : Nat), v13 = .int .i64 i ∧ Aside0 (i + gg = l.length + 1) ∧ Aside0 (Kd.R (Kd.int .i64) 3 wr W.heap.size (fun _ => True) (.slice A l.length c) l) ∧ Aside0 (StDid w W wr g b1 b2 room last (dropMany m (l.take i))))
  case atStart => exact ⟨0, rfl, ⟨by omega⟩, HR, ⟨by rw [List.take_zero, dropMany_nil]; exact H0.out.stay HB.out⟩⟩
  case round =>
    clear HR HB
    obtain ⟨i, rfl, HG, HRI, HD⟩ := hrel
    by_cases hi : i < l.length
    · obtain ⟨gg, rfl⟩ : ∃ z, gk = z + 1 := ⟨gk - 1, by have := HG.out; omega⟩
      have hlt : ((i : Int) < (l.length : Int)) = True := eq_true (by omega)
      obtain ⟨ad, hA, hx⟩ := Kd.at_int (Kd.R_reads' HRI.out).2.2 (i : Int) (by omega) (by omega)
      subst hA
      rw [Go.Proofs.Ytcddajdjmlmpdaa.Pure.rd_lt l i hi, Int.toNat_natCast] at hx
      have hwf := HIN.out _ (List.getElem_mem hi)
      have HT := Aside0.mk (show l.take (i + 1) = l.take i ++ [l[i]] by rw [List.take_add_one, List.getElem?_eq_getElem hi]; rfl)
      generalize l[i] = id at hx hwf HT
      have HDR := Aside0.mk (HD.out.st.Drop_any id hwf)
      clear hwf
      go_wp2_with fail
      refine HDR.out.mono ?_
      rintro e W3 ⟨he, d⟩
      generalize (if (atS (dropMany m (l.take i)) id).isSome = true then (0 : Int) else 4) = rv at he
      subst he
      rw [dropMany_snoc, ← HT.out] at d
      have HD3 := Aside0.mk (show StDid w W W3 g b1 b2 room last (dropMany m (l.take (i + 1))) from ⟨d.st, keptS_trans HD.out.kept d.kept⟩)
      have HR3 := Aside0.mk (ints_keptS HRI.out d.kept)
      clear d HDR HD HRI HT
      go_wp2_with fail
      go_roundg gg
      case measure => omega
      case rel => exact ⟨i + 1, by go_num, ⟨by have := HG.out; omega⟩, HR3, HD3⟩
    · have hlt : ((i : Int) < (l.length : Int)) = False := eq_false (by omega)
      have hlt2 : (i < l.length) = False := eq_false hi
      go_wp2_with fail
      go_ret
      have hd := HD.out
      rw [show l.take i = l from List.take_of_length_le (by omega), HE.out] at hd
      exact ⟨A, c, rfl, HRI.out, hd⟩
end
end Go.Proofs.Ytcddajdjmlmpdaa.Print
