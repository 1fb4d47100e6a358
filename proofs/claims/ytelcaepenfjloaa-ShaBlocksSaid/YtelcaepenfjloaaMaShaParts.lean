/- The law that bytes may be written in whichever parts, by hand. -/
-- MANUAL mosaic/mosaiclaw01.ShaParts making plain
import Derived.Test.YtelcaepenfjloaaPrK
import Derived.Test.YtelcaepenfjloaaMaSha
import Derived.Test.YtelcaepenfjloaaMaShaSum
import Derived.Test.YtelcaepenfjloaaMaShaSum2
import Derived.Test.YtelcaepenfjloaaMaShaTop
import Derived.Test.YtelcaepenfjloaaPr27
import Derived.Test.YtelcaepenfjloaaPureSha
import Derived.Test.YtelcaepenfjloaaPureSha
import Derived.IntWalk
namespace Go.Proofs.Ytelcaepenfjloaa.Print
open Go.RowKit Go.Proofs.YtelcaepenfjloaaW.PrintWords Go.Proofs.YtelcaepenfjloaaW.PrintLast Go.Proofs.YtelcaepenfjloaaW.PrintMore
open Go.Proofs.Ytelcaepenfjloaa.Pure (blocks_more bytesOf_append bytesOf_extract bytesOf_strOfNums shaSum_eq refsum_ev sha_f awake01)
set_option linter.unusedVariables false
set_option linter.unusedSimpArgs false

theorem hashGo_blocks3 : ∀ (k : Nat) (st p : List Int) (s : ByteArray) (pad : List Int) (K K3 : Nat), s.size < k → p.length < 64 → p.length + s.size + pad.length ≤ 64 * K → (hashGo k st p s).2.length + pad.length ≤ 64 * K3 →
    blocks K3 (hashGo k st p s).1 ((hashGo k st p s).2 ++ pad) = blocks K st (p ++ bytesOf s ++ pad)
  | 0, st, p, s, pad, K, K3, h, _, _, _ => by omega
  | k + 1, st, p, s, pad, K, K3, h, hp, hK, hK3 => by
    have hl : (p ++ bytesOf (s.extract 0 (min (64 - p.length) s.size))).length = p.length + min (64 - p.length) s.size := by
      rw [List.length_append, bytesOf_length]
      simp
    have hs := bytesOf_length s
    rw [hashGo] at hK3 ⊢
    by_cases c : (p ++ bytesOf (s.extract 0 (min (64 - p.length) s.size))).length = 64
    · rw [if_pos c] at hK3 ⊢
      have h2 : (s.extract (min (64 - p.length) s.size) s.size).size = s.size - min (64 - p.length) s.size := by simp
      obtain ⟨K, rfl⟩ : ∃ m, K = m + 1 := ⟨K - 1, by omega⟩
      rw [hashGo_blocks3 k _ [] _ pad K K3 (by omega) (by simp) (by simp only [List.length_nil]; omega) hK3]
      have hm : min (64 - p.length) s.size = 64 - p.length := by omega
      rw [blocks, if_pos (by simp only [List.length_append]; omega)]
      rw [hm, bytesOf_extract, bytesOf_extract, List.drop_zero, Nat.sub_zero, List.nil_append]
      have e1 : ((bytesOf s).drop (64 - p.length)).take (s.size - (64 - p.length)) = (bytesOf s).drop (64 - p.length) := List.take_of_length_le (by rw [List.length_drop, hs]; omega)
      rw [e1]
      have e2 : (p ++ bytesOf s ++ pad).take 64 = p ++ (bytesOf s).take (64 - p.length) := by
        rw [List.append_assoc, List.take_append, List.take_of_length_le (by omega), List.take_append, show 64 - p.length - (bytesOf s).length = 0 by omega, List.take_zero, List.append_nil]
      have e3 : (p ++ bytesOf s ++ pad).drop 64 = (bytesOf s).drop (64 - p.length) ++ pad := by
        rw [List.append_assoc, List.drop_append, List.drop_of_length_le (by omega), List.nil_append, List.drop_append, show 64 - p.length - (bytesOf s).length = 0 by omega, List.drop_zero]
      rw [e2, e3]
    · rw [if_neg c] at hK3 ⊢
      have hm : min (64 - p.length) s.size = s.size := by omega
      have e : bytesOf (s.extract 0 (min (64 - p.length) s.size)) = bytesOf s := by
        rw [hm, bytesOf_extract, List.drop_zero, Nat.sub_zero]
        exact List.take_of_length_le (by omega)
      rw [e] at hK3 ⊢
      refine blocks_more _ _ _ _ ?_ ?_
      · simp only [List.length_append] at hK3 ⊢
        omega
      · simp only [List.length_append]
        omega
/-- What a sum that was written to holds: all that was written, as far as the mixing sees. -/
structure WrittenI (st pt : List Int) (all : ByteArray) : Prop where
  lt : pt.length < 64
  eq8 : st.length = 8
  md : pt.length % 64 = all.size % 64
  mix : ∀ (rest : List Int) (K K' : Nat), pt.length + rest.length ≤ 64 * K → all.size + rest.length ≤ 64 * K' → blocks K st (pt ++ rest) = blocks K' startS (bytesOf all ++ rest)
theorem WrittenI.start : WrittenI startS [] (⟨#[]⟩ : ByteArray) :=
  ⟨by simp, rfl, rfl, fun rest K K' h h' => by
    rw [show bytesOf (⟨#[]⟩ : ByteArray) = [] from rfl]
    have h2 : (⟨#[]⟩ : ByteArray).size = 0 := rfl
    rw [h2] at h'
    simp only [List.length_nil] at h
    simp only [List.nil_append]
    exact blocks_more _ _ _ _ (by omega) (by omega)⟩
theorem WrittenI.write {st pt : List Int} {all : ByteArray} (h : WrittenI st pt all) (s : ByteArray) : WrittenI (hashGo (s.size + 1) st pt s).1 (hashGo (s.size + 1) st pt s).2 (all ++ s) := by
  obtain ⟨l1, l2, l3⟩ := hashGo_len (s.size + 1) st pt s (by omega) h.lt h.eq8
  have hm := h.md
  refine ⟨l2, l1, ?_, fun rest K K' hK hK' => ?_⟩
  · rw [l3, ByteArray.size_append]
    omega
  · rw [ByteArray.size_append] at hK'
    have hbs := bytesOf_length s
    have hp := h.lt
    rw [hashGo_blocks3 (s.size + 1) st pt s rest (K' + 1) K (by omega) h.lt (by omega) hK, List.append_assoc, h.mix (bytesOf s ++ rest) (K' + 1) K' (by simp only [List.length_append]; omega) (by simp only [List.length_append]; omega), bytesOf_append, List.append_assoc]
theorem WrittenI.sum {st pt : List Int} {all : ByteArray} (h : WrittenI st pt all) (hs : all.size ≤ 65536) : strOfNums (outB (blocks 3 st (pt ++ bytesOf (padB all.size)))) = shaSum all := by
  have hl := padL_length (all.size : Int) (by omega)
  have hp := h.lt
  rw [padB, bytesOf_strOfNums _ (padL_range _), h.mix _ 3 (all.size + 72) (by omega) (by omega), shaSum_eq all hs (all.size + 72) (by omega)]
theorem hashLen_calls (B g : Nat) (st pt : List Int) (v : Value) (n : Int) (w : World) (h : HashW B w g st v pt n) :
    Calls Try.prog 38 #[.pointer (some ⟨g, 0, none⟩)] w fun e w' => e = .returned (.int .i64 n) ∧ Below w.heap.size w w' := by
  have hn := h.num
  have HB := Aside0.mk (Below.refl w.heap.size w)
  clear h
  go_enter Try.func38, Try.ntmps38
  go_wp2
  go_ret
  exact ⟨rfl, by repeat (first | (with_reducible first | exact HB.out | apply below_alloc | apply pw_below_drewN | apply below_drew1) | exact HB.out)⟩
/-- A sum at block g that holds all. -/
structure SumAt (w W : World) (g : Nat) (all : ByteArray) : Prop where
  out : ∃ st pt v, HashW w.heap.size W g st v pt all.size ∧ WrittenI st pt all
  bel : Below w.heap.size w W
  le : all.size ≤ 5000
theorem SumAt.below {w W W2 : World} {g : Nat} {all : ByteArray} (t : SumAt w W g all) (hb : Below W.heap.size W W2) : SumAt w W2 g all := by
  obtain ⟨st, pt, v, h1, h2⟩ := t.out
  exact ⟨⟨st, pt, v, h1.below hb, h2⟩, below_step t.bel hb, t.le⟩
theorem SumAt.write {w W : World} {g : Nat} {all : ByteArray} (t : SumAt w W g all) (s : ByteArray) (hs : all.size + s.size ≤ 5000) :
    Calls Try.prog 37 #[.pointer (some ⟨g, 0, none⟩), .string s] W fun e W2 => e = .returned (.int .i64 0) ∧ Aside0 (SumAt w W2 g (all ++ s)) := by
  obtain ⟨st, pt, v, h1, h2⟩ := t.out
  refine (write_calls w.heap.size g st pt v all.size s W h1 t.bel.size h2.lt (by omega) (by omega)).mono ?_
  rintro e W2 ⟨rfl, hb, v', h3⟩
  refine ⟨rfl, ⟨⟨_, _, v', ?_, h2.write s⟩, t.bel.trans hb, by rw [ByteArray.size_append]; omega⟩⟩
  rw [ByteArray.size_append, Int.natCast_add]
  exact h3
theorem SumAt.len {w W : World} {g : Nat} {all : ByteArray} (t : SumAt w W g all) :
    Calls Try.prog 38 #[.pointer (some ⟨g, 0, none⟩)] W fun e W2 => e = .returned (.int .i64 all.size) ∧ Aside0 (SumAt w W2 g all) := by
  obtain ⟨st, pt, v, h1, h2⟩ := t.out
  refine (hashLen_calls w.heap.size g st pt v _ W h1).mono ?_
  rintro e W2 ⟨rfl, hb⟩
  exact ⟨rfl, ⟨t.below hb⟩⟩
theorem SumAt.sum {w W : World} {g : Nat} {all : ByteArray} (t : SumAt w W g all) :
    Calls Try.prog 39 #[.pointer (some ⟨g, 0, none⟩)] W fun e W2 => e = .returned (.string (shaSum all)) ∧ Aside0 (SumAt w W2 g all) := by
  obtain ⟨st, pt, v, h1, h2⟩ := t.out
  have hle := t.le
  have hz := padB_size (all.size : Int) (by omega)
  have hlt := h2.lt
  have hmd := h2.md
  have := hashSum_calls w.heap.size g (0 + 11) st pt v all.size (padB all.size) W h1 t.bel.size h2.lt (pad_f 0 _ (by omega) (by omega)) (by omega) (by omega)
  rw [h2.sum (by omega)] at this
  refine this.mono ?_
  rintro e W2 ⟨rfl, hb⟩
  exact ⟨rfl, ⟨t.below hb⟩⟩
theorem refSum_all (all : ByteArray) (h : all.size ≤ 5000) (W : World) : Calls Try.prog 27 #[.string all] W fun e W2 => e = .returned (.string (shaSum all)) ∧ Below W.heap.size W W2 := by
  obtain ⟨k, hk⟩ := (refsum_ev all (by omega)).rounds
  exact mosaicref01_Sum.calls k all _ W hk
theorem sha_Sum_all (all : ByteArray) (h : all.size ≤ 5000) (W : World) : Calls Try.prog 26 #[.string all] W fun e W2 => e = .returned (.string (shaSum all)) ∧ Below W.heap.size W W2 :=
  sha_Sum.calls all _ W (sha_f all (by omega))
end Go.Proofs.Ytelcaepenfjloaa.Print
