/- net: what the document's functions compute of a net's mails, and their calls. -/
import Derived.Test.YtcddajdjmlmpdaaPrK
import Derived.Test.YtcddajdjmlmpdaaMaNet1
import Derived.Test.YtcddajdjmlmpdaaMaNet2
import Derived.Test.YtcddajdjmlmpdaaMaNet3
import Derived.Test.YtcddajdjmlmpdaaMaNet4
import Derived.Test.YtcddajdjmlmpdaaPr28
import Derived.Test.YtcddajdjmlmpdaaPr29
import Derived.Test.YtcddajdjmlmpdaaPr31
import Derived.Test.YtcddajdjmlmpdaaPr32
import Derived.Test.YtcddajdjmlmpdaaPr36
import Derived.Test.YtcddajdjmlmpdaaPr38
import Derived.Test.YtcddajdjmlmpdaaPr64
import Derived.Test.YtcddajdjmlmpdaaPureW
import Derived.Test.YtcddajdjmlmpdaaMaNet5
import Derived.Test.YtcddajdjmlmpdaaPureW
namespace Go.Proofs.Ytcddajdjmlmpdaa.Print
open Go.RowKit Go.Proofs.YtcddajdjmlmpdaaW.PrintWords Go.Proofs.YtcddajdjmlmpdaaW.PrintLast Go.Proofs.YtcddajdjmlmpdaaW.PrintMore
open Go.Proofs.Ytcddajdjmlmpdaa.Pure (wrap_succ wrap_of)
set_option linter.unusedVariables false
set_option linter.unusedSimpArgs false

abbrev Rm := S59
def refN (m : NMs) : List Rm := m.map fun p => ⟨p.1, p.2.f0, p.2.f1, p.2.f2⟩
theorem refN_len (m : NMs) : (refN m).length = m.length := List.length_map _
theorem rdm (l : List Rm) (i : Nat) (h : i < l.length) : rd_T59 l (i : Int) = l[i] := by
  unfold rd_T59
  rw [Int.toNat_natCast, List.getD_eq_getElem?_getD, List.getElem?_eq_getElem h]
  rfl
theorem drop_get {α : Type} (l : List α) (i : Nat) (h : i < l.length) : l.drop i = l[i] :: l.drop (i + 1) := List.drop_eq_getElem_cons h
theorem take_get {α : Type} (l : List α) (i : Nat) (h : i < l.length) : l.take (i + 1) = l.take i ++ [l[i]] := by
  rw [List.take_add_one, List.getElem?_eq_getElem h]
  rfl
/-! ### Find -/
def findR : List Rm → Int → Nat → Int
  | [], _, _ => -1
  | x :: t, n, i => if x.f0 = n then (i : Int) else findR t n (i + 1)
theorem find_evR (room last : Int) (l : List Rm) (n : Int) (hl : l.length < 1000000) : ∀ (d i : Nat), i + d = l.length → Ev (fun k => mosaicref21_Net_Find.l0 k n (i : Int) room last l) (findR (l.drop i) n i)
  | 0, i, h => by
    refine Ev.succ ?_
    simp only [mosaicref21_Net_Find.l0]
    refine Ev.neg (by omega) (Ev.some_ ?_)
    rw [List.drop_eq_nil_of_le (by omega)]
    rfl
  | d + 1, i, h => by
    have hi : i < l.length := by omega
    refine Ev.succ ?_
    simp only [mosaicref21_Net_Find.l0]
    rw [rdm l i hi, drop_get l i hi, wrap_succ i (by omega)]
    refine Ev.pos (by omega) (Ev.pos (by omega) ?_)
    unfold findR
    by_cases hn : l[i].f0 = n
    · rw [if_pos hn]
      exact Ev.pos hn (Ev.some_ rfl)
    · rw [if_neg hn]
      exact Ev.neg hn (find_evR room last l n hl d (i + 1) (by omega))
theorem find_fR (room last : Int) (l : List Rm) (n : Int) (hl : l.length < 1000000) : Ev (fun k => mosaicref21_Net_Find.f k room last l n) (findR l n 0) :=
  find_evR room last l n hl l.length 0 (by omega)
theorem findR_none : ∀ (l : List Rm) (n : Int) (i : Nat), (∀ x ∈ l, x.f0 ≠ n) → findR l n i = -1
  | [], _, _, _ => rfl
  | x :: t, n, i, h => by
    unfold findR
    rw [if_neg (h x (by simp))]
    exact findR_none t n (i + 1) (fun y hy => h y (by simp [hy]))
theorem findR_some : ∀ (l : List Rm) (n : Int) (i : Nat) (x : Rm), x ∈ l → x.f0 = n → ∃ j, j < l.length ∧ findR l n i = ((i + j : Nat) : Int) ∧ ∃ y, l[j]? = some y ∧ y.f0 = n ∧ y ∈ l
  | x :: t, n, i, y, hy, hn => by
    unfold findR
    by_cases hx : x.f0 = n
    · rw [if_pos hx]
      exact ⟨0, by simp, by simp, x, rfl, hx, by simp⟩
    · rw [if_neg hx]
      rcases List.mem_cons.1 hy with rfl | hy
      · exact absurd hn hx
      · obtain ⟨j, h1, h2, z, h3, h4, h5⟩ := findR_some t n (i + 1) y hy hn
        exact ⟨j + 1, by simp; omega, by rw [h2]; congr 1; omega, z, by simpa using h3, h4, by simp [h5]⟩
/-- One entry a number. -/
theorem rise_uniq : ∀ {m : NMs}, (m.map (·.1)).Pairwise (· < ·) → ∀ {p q : Int × Gr}, p ∈ m → q ∈ m → p.1 = q.1 → p = q
  | x :: t, h, p, q, hp, hq, e => by
    rw [List.map_cons, List.pairwise_cons] at h
    rcases List.mem_cons.1 hp with h1 | h1 <;> rcases List.mem_cons.1 hq with h2 | h2
    · rw [h1, h2]
    · have := h.1 q.1 (List.mem_map.2 ⟨q, h2, rfl⟩)
      rw [h1] at e
      omega
    · have := h.1 p.1 (List.mem_map.2 ⟨p, h1, rfl⟩)
      rw [h2] at e
      omega
    · exact rise_uniq h.2 h1 h2 e
theorem findN_no {m : NMs} {id : Int} (h : atN m id = none) : findR (refN m) id 0 = -1 :=
  findR_none _ _ _ (fun x hx => by
    obtain ⟨p, hp, rfl⟩ := List.mem_map.1 hx
    exact atN_none h p hp)
theorem findN_yes {m : NMs} {id : Int} {x : Gr} (hr : (m.map (·.1)).Pairwise (· < ·)) (h : atN m id = some x) : ∃ j, j < m.length ∧ findR (refN m) id 0 = (j : Int) ∧ rd_T59 (refN m) (j : Int) = ⟨id, x.f0, x.f1, x.f2⟩ := by
  have hx := atN_some h
  obtain ⟨j, h1, h2, y, h3, h4, h5⟩ := findR_some (refN m) id 0 ⟨id, x.f0, x.f1, x.f2⟩ (List.mem_map.2 ⟨_, hx, rfl⟩) rfl
  rw [refN_len] at h1
  refine ⟨j, h1, by rw [h2]; simp, ?_⟩
  rw [rdm _ j (by rw [refN_len]; exact h1)]
  rw [List.getElem?_eq_getElem (by rw [refN_len]; exact h1)] at h3
  have h6 : (refN m)[j]'(by rw [refN_len]; exact h1) = y := Option.some.inj h3
  rw [h6]
  obtain ⟨p, hp, rfl⟩ := List.mem_map.1 h5
  have : p = (id, x) := rise_uniq hr hp hx h4
  rw [this]
/-! ### put, Send, Twice -/
theorem put_evR (room last : Int) (l : List Rm) (a b c : Int) (s : ByteArray) (hl : l.length < 1000000) (hla : 0 ≤ last ∧ last < 1000000000) : ∀ (d i : Nat), i + d = l.length → Ev (fun k => mosaicref21_Net_put.l0 k (l.take i) (i : Int) room last l a b c s) (room, last + 1, l ++ [⟨last + 1, b, c, s⟩], last + 1, 0)
  | 0, i, h => by
    refine Ev.succ ?_
    simp only [mosaicref21_Net_put.l0]
    have ht : l.take i = l := List.take_of_length_le (by omega)
    rw [ht, wrap_of (show (-9223372036854775808 : Int) ≤ last + 1 by omega) (by omega)]
    exact Ev.neg (by omega) (Ev.pos (by omega) (Ev.some_ rfl))
  | d + 1, i, h => by
    have hi : i < l.length := by omega
    refine Ev.succ ?_
    simp only [mosaicref21_Net_put.l0]
    rw [rdm l i hi, wrap_succ i (by omega)]
    refine Ev.pos (by omega) (Ev.pos (by omega) (Ev.pos (by rw [List.length_take]; omega) ?_))
    have := put_evR room last l a b c s hl hla d (i + 1) (by omega)
    rw [take_get l i hi] at this
    exact this
/-- What a call of put answers. -/
theorem put_fR (room last : Int) (m : NMs) (a : Int) (x : Gr) (hl : m.length < 1000000) (hla : 0 ≤ last ∧ last < 1000000000) : Ev (fun k => mosaicref21_Net_put.f k room last (refN m) a x.f0 x.f1 x.f2) (room, putL room last m, refN (putM room last m x), (putC room last m).1, (putC room last m).2) := by
  unfold mosaicref21_Net_put.f putL putM putC
  have h0 : ((refN m).length : Int) = (m.length : Int) := by rw [refN_len]
  by_cases h : room ≤ (m.length : Int)
  · rw [if_pos h, if_pos h, if_pos h]
    exact Ev.pos (by rw [h0]; exact h) (Ev.some_ rfl)
  · rw [if_neg h, if_neg h, if_neg h]
    refine Ev.neg (by rw [h0]; exact h) ((put_evR room last (refN m) a x.f0 x.f1 x.f2 (by rw [refN_len]; exact hl) hla m.length 0 (by rw [refN_len]; omega)).to ?_)
    unfold refN
    rw [List.map_append]
    rfl
def sendL (room last : Int) (m : NMs) (x : Gr) : Int := if goodG x then putL room last m else last
def sendM (room last : Int) (m : NMs) (x : Gr) : NMs := if goodG x then putM room last m x else m
def sendC (room last : Int) (m : NMs) (x : Gr) : Int × Int := if goodG x then putC room last m else (0, 1)
theorem send_fR (room last : Int) (m : NMs) (x : Gr) (hl : m.length < 1000000) (hla : 0 ≤ last ∧ last < 1000000000) : Ev (fun k => mosaicref21_Net_Send.f k room last (refN m) 0 x.f0 x.f1 x.f2) (room, sendL room last m x, refN (sendM room last m x), (sendC room last m x).1, (sendC room last m x).2) := by
  unfold mosaicref21_Net_Send.f sendL sendM sendC
  by_cases hg : goodG x
  · rw [if_pos hg, if_pos hg, if_pos hg]
    obtain ⟨h1, h2, h3, h4⟩ := hg
    refine Ev.neg (by omega) (Ev.neg (by omega) (Ev.neg (by omega) (Ev.neg (by omega) (Ev.neg h3 (Ev.neg (by omega) ?_)))))
    exact Ev.bind (put_fR room last m 0 x hl hla) (Ev.some_ rfl)
  · rw [if_neg hg, if_neg hg, if_neg hg]
    by_cases h1 : x.f0 < 1
    · exact Ev.pos h1 (Ev.some_ rfl)
    refine Ev.neg h1 ?_
    by_cases h2 : x.f0 > 15
    · exact Ev.pos h2 (Ev.some_ rfl)
    refine Ev.neg h2 ?_
    by_cases h3 : x.f1 < 1
    · exact Ev.pos h3 (Ev.some_ rfl)
    refine Ev.neg h3 ?_
    by_cases h4 : x.f1 > 15
    · exact Ev.pos h4 (Ev.some_ rfl)
    refine Ev.neg h4 ?_
    by_cases h5 : x.f0 = x.f1
    · exact Ev.pos h5 (Ev.some_ rfl)
    refine Ev.neg h5 ?_
    refine Ev.pos ?_ (Ev.some_ rfl)
    unfold goodG at hg
    omega
def twiceL (room last : Int) (m : NMs) (id : Int) : Int := match atN m id with | some _ => putL room last m | none => last
def twiceM (room last : Int) (m : NMs) (id : Int) : NMs := match atN m id with | some x => putM room last m x | none => m
def twiceC (room last : Int) (m : NMs) (id : Int) : Int × Int := match atN m id with | some _ => putC room last m | none => (0, 4)
/-! ### Lose -/
def dropR (l : List Rm) (id : Int) : List Rm := l.filter fun x => decide (x.f0 ≠ id)
theorem lose_evR (room last : Int) (l : List Rm) (id : Int) (hl : l.length < 1000000) : ∀ (d i : Nat) (acc : List Rm), i + d = l.length → acc.length ≤ i → Ev (fun k => mosaicref21_Net_Lose.l0 k id acc (i : Int) room last l) (room, last, acc ++ dropR (l.drop i) id, 0)
  | 0, i, acc, h, ha => by
    refine Ev.succ ?_
    simp only [mosaicref21_Net_Lose.l0]
    refine Ev.neg (by omega) (Ev.some_ ?_)
    rw [List.drop_eq_nil_of_le (by omega), show dropR [] id = [] from rfl, List.append_nil]
  | d + 1, i, acc, h, ha => by
    have hi : i < l.length := by omega
    refine Ev.succ ?_
    simp only [mosaicref21_Net_Lose.l0]
    rw [rdm l i hi, drop_get l i hi, wrap_succ i (by omega)]
    refine Ev.pos (by omega) (Ev.pos (by omega) ?_)
    by_cases hn : l[i].f0 = id
    · refine Ev.pos hn ?_
      rw [show dropR (l[i] :: l.drop (i + 1)) id = dropR (l.drop (i + 1)) id by unfold dropR; rw [List.filter_cons, if_neg (by simp [hn])]]
      exact lose_evR room last l id hl d (i + 1) acc (by omega) (by omega)
    · refine Ev.neg hn (Ev.pos (by omega) ?_)
      have := lose_evR room last l id hl d (i + 1) (acc ++ [l[i]]) (by omega) (by rw [List.length_append]; simp; omega)
      rw [show dropR (l[i] :: l.drop (i + 1)) id = l[i] :: dropR (l.drop (i + 1)) id by unfold dropR; rw [List.filter_cons, if_pos (by simp [hn])]]
      rw [List.append_assoc] at this
      exact this
theorem dropR_ref (m : NMs) (id : Int) : dropR (refN m) id = refN (dropN m id) := by
  unfold dropR refN dropN
  rw [List.filter_map]
  rfl
theorem lose_fR (room last : Int) (m : NMs) (id : Int) (hr : (m.map (·.1)).Pairwise (· < ·)) (hl : m.length < 1000000) : Ev (fun k => mosaicref21_Net_Lose.f k room last (refN m) id) (room, last, refN (dropN m id), findC (atN m id)) := by
  unfold mosaicref21_Net_Lose.f
  refine Ev.bind (find_fR room last (refN m) id (by rw [refN_len]; exact hl)) ?_
  match hx : atN m id with
  | none =>
    rw [findN_no hx, dropN_none hx]
    exact Ev.pos (by omega) (Ev.some_ rfl)
  | some x =>
    obtain ⟨j, hj, h1, h2⟩ := findN_yes hr hx
    rw [h1]
    refine Ev.neg (by omega) ((lose_evR room last (refN m) id (by rw [refN_len]; exact hl) m.length 0 [] (by rw [refN_len]; omega) (by simp)).to ?_)
    rw [List.drop_zero, List.nil_append, dropR_ref]
    rfl
/-! ### Nth, To, same, Same -/
theorem nth_fR (room last : Int) (m : NMs) (i : Int) (hl : m.length < 1000000) : mosaicref21_Net_Nth.f room last (refN m) i = some (nthN m i) := by
  unfold mosaicref21_Net_Nth.f nthN
  rw [refN_len]
  by_cases h0 : i < 0
  · rw [if_pos h0, if_pos (.inr h0)]
  · rw [if_neg h0]
    by_cases h1 : m.length = 0
    · have hz : (m.length : Int) = 0 := by omega
      rw [if_pos hz, if_pos (show m.length = 0 ∨ i < 0 from .inl h1)]
    · have hz : ¬ (m.length : Int) = 0 := by omega
      rw [if_neg hz, if_neg (show ¬ (m.length = 0 ∨ i < 0) from fun h => h.elim h1 h0)]
      have e : Int.tmod i (m.length : Int) = i % (m.length : Int) := Int.tmod_eq_emod_of_nonneg (by omega)
      have hn0 : 0 ≤ i % (m.length : Int) := Int.emod_nonneg _ (by omega)
      have hn1 : i % (m.length : Int) < (m.length : Int) := Int.emod_lt_of_pos _ (by omega)
      rw [e, if_pos hn0, if_pos hn1]
      congr 1
      obtain ⟨j, hj⟩ := Int.eq_ofNat_of_zero_le hn0
      rw [hj] at hn1 ⊢
      rw [rdm _ j (by rw [refN_len]; omega), Go.Proofs.Ytcddajdjmlmpdaa.Pure.rd_lt _ j (by rw [List.length_map]; omega)]
      unfold refN
      rw [List.getElem_map, List.getElem_map]
def toR (l : List Rm) (n : Int) : List Int := (l.filter fun x => decide (x.f2 = n)).map (·.f0)
theorem to_evR (room last : Int) (l : List Rm) (n : Int) (hl : l.length < 1000000) : ∀ (d i : Nat) (acc : List Int), i + d = l.length → acc.length ≤ i → Ev (fun k => mosaicref21_Net_To.l0 k n acc (i : Int) room last l) (acc ++ toR (l.drop i) n)
  | 0, i, acc, h, ha => by
    refine Ev.succ ?_
    simp only [mosaicref21_Net_To.l0]
    refine Ev.neg (by omega) (Ev.some_ ?_)
    rw [List.drop_eq_nil_of_le (by omega), show toR [] n = [] from rfl, List.append_nil]
  | d + 1, i, acc, h, ha => by
    have hi : i < l.length := by omega
    refine Ev.succ ?_
    simp only [mosaicref21_Net_To.l0]
    rw [rdm l i hi, drop_get l i hi, wrap_succ i (by omega)]
    refine Ev.pos (by omega) (Ev.pos (by omega) ?_)
    by_cases hn : l[i].f2 = n
    · refine Ev.pos hn (Ev.pos (by omega) ?_)
      have := to_evR room last l n hl d (i + 1) (acc ++ [l[i].f0]) (by omega) (by rw [List.length_append]; simp; omega)
      rw [show toR (l[i] :: l.drop (i + 1)) n = l[i].f0 :: toR (l.drop (i + 1)) n by unfold toR; rw [List.filter_cons, if_pos (by simp [hn]), List.map_cons]]
      rw [List.append_assoc] at this
      exact this
    · refine Ev.neg hn ?_
      rw [show toR (l[i] :: l.drop (i + 1)) n = toR (l.drop (i + 1)) n by unfold toR; rw [List.filter_cons, if_neg (by simp [hn])]]
      exact to_evR room last l n hl d (i + 1) acc (by omega) (by omega)
theorem toR_ref (m : NMs) (n : Int) : toR (refN m) n = idsN (fun x => x.f1 == n) m := by
  unfold toR refN idsN
  rw [List.filter_map, List.map_map]
  congr 1
theorem to_fR (room last : Int) (m : NMs) (n : Int) (hl : m.length < 1000000) : Ev (fun k => mosaicref21_Net_To.f k room last (refN m) n) (idsN (fun x => x.f1 == n) m) := by
  unfold mosaicref21_Net_To.f
  refine (to_evR room last (refN m) n (by rw [refN_len]; exact hl) m.length 0 [] (by rw [refN_len]; omega) (by simp)).to ?_
  rw [List.drop_zero, List.nil_append, toR_ref]
theorem sameL_ev (l : List Int) (hl : l.length < 1000000) : ∀ (d i : Nat), i + d = l.length → Ev (fun k => mosaicref04_Same.l0 k l l (i : Int)) true
  | 0, i, h => by
    refine Ev.succ ?_
    simp only [mosaicref04_Same.l0]
    exact Ev.neg (by omega) (Ev.some_ rfl)
  | d + 1, i, h => by
    have hi : i < l.length := by omega
    refine Ev.succ ?_
    simp only [mosaicref04_Same.l0]
    rw [wrap_succ i (by omega)]
    exact Ev.pos (by omega) (Ev.pos (by omega) (Ev.pos (by omega) (Ev.pos (by trivial) (sameL_ev l hl d (i + 1) (by omega)))))
theorem sameL_f (l : List Int) (hl : l.length < 1000000) : Ev (fun k => mosaicref04_Same.f k l l) true := by
  unfold mosaicref04_Same.f
  exact Ev.pos (by trivial) (sameL_ev l hl l.length 0 (by omega))
end Go.Proofs.Ytcddajdjmlmpdaa.Print
