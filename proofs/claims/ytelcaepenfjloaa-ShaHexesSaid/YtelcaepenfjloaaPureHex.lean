/- Hexadecimal digits in plain words: what is written so is read again, and only so. -/
import Derived.Test.YtelcaepenfjloaaPrK
import Derived.Test.YtelcaepenfjloaaMaShaHex
import Derived.Test.YtelcaepenfjloaaPr40
import Derived.Test.YtelcaepenfjloaaPr41
import Derived.Test.YtelcaepenfjloaaPr43
import Derived.Test.YtelcaepenfjloaaPr87
import Derived.Test.YtelcaepenfjloaaPr88
import Derived.Test.YtelcaepenfjloaaPureW
import Derived.Test.YtelcaepenfjloaaPureW
import Derived.Test.YtelcaepenfjloaaPureSha
import Derived.Laws.BitsLemmas
namespace Go.Proofs.Ytelcaepenfjloaa.Pure
open Go.RowKit Go.Proofs.Ytelcaepenfjloaa.Print Go.Proofs.YtelcaepenfjloaaW.PrintWords Go.Proofs.YtelcaepenfjloaaW.PrintLast Go.Proofs.YtelcaepenfjloaaW.PrintMore
set_option linter.unusedVariables false
set_option linter.unusedSimpArgs false

def digV (c : Int) : Int := if 48 ≤ c ∧ c ≤ 57 then c - 48 else if 97 ≤ c ∧ c ≤ 102 then c - 87 else -1
def unhexL : List Int → Option (List Int)
  | [] => some []
  | [_] => none
  | a :: b :: l => if digV a < 0 ∨ digV b < 0 then none else (unhexL l).map ((16 * digV a + digV b) :: ·)
def unhexR (acc : List Int) (o : Option (List Int)) : ByteArray × Int :=
  match o with
  | none => (⟨#[]⟩, 3)
  | some r => (strOfNums (acc ++ r), 0)
theorem digV_range (c : Int) : -1 ≤ digV c ∧ digV c ≤ 15 := by
  unfold digV
  split
  · omega
  · split <;> omega
theorem digV_num {c : Int} (h : 48 ≤ c ∧ c ≤ 57) : digV c = c - 48 := if_pos h
theorem digV_let {c : Int} (h : 97 ≤ c ∧ c ≤ 102) : digV c = c - 87 := by
  unfold digV
  rw [if_neg (by omega), if_pos h]
theorem digV_no {c : Int} (h : ¬ (48 ≤ c ∧ c ≤ 57)) (g : ¬ (97 ≤ c ∧ c ≤ 102)) : digV c = -1 := by
  unfold digV
  rw [if_neg h, if_neg g]
theorem digit_ev (c : Int) (h0 : 0 ≤ c) (h1 : c ≤ 255) : Ev (fun k => sha_digit.f k c) (digV c) := by
  unfold sha_digit.f
  by_cases h : 48 ≤ c ∧ c ≤ 57
  · rw [digV_num h]
    refine Ev.pos h.1 (Ev.succ ?_)
    simp only [sha_digit.j0]
    exact Ev.pos (decide_eq_true h.2) (Ev.some_ (by omega))
  by_cases g : 97 ≤ c ∧ c ≤ 102
  · rw [digV_let g]
    refine Ev.pos (by omega) (Ev.succ ?_)
    simp only [sha_digit.j0]
    exact Ev.neg (by simp; omega) (Ev.pos g.1 (Ev.pos g.2 (Ev.some_ (by omega))))
  rw [digV_no h g]
  by_cases a : c ≥ 48
  · refine Ev.pos a (Ev.succ ?_)
    simp only [sha_digit.j0]
    refine Ev.neg (by simp; omega) ?_
    by_cases b : c ≥ 97
    · exact Ev.pos b (Ev.neg (by omega) (Ev.some_ rfl))
    · exact Ev.neg b (Ev.some_ rfl)
  · refine Ev.neg a (Ev.succ ?_)
    simp only [sha_digit.j0]
    exact Ev.neg (by simp) (Ev.neg (by omega) (Ev.some_ rfl))
theorem refdigit_ev (c : Int) (h0 : 0 ≤ c) (h1 : c ≤ 255) : Ev (fun k => mosaicref01_digit.f k c) (if digV c < 0 then 16 else digV c) := by
  unfold mosaicref01_digit.f
  by_cases h : 48 ≤ c ∧ c ≤ 57
  · rw [digV_num h, if_neg (by omega)]
    refine Ev.pos h.1 (Ev.succ ?_)
    simp only [mosaicref01_digit.j0]
    exact Ev.pos (decide_eq_true h.2) (Ev.some_ (by omega))
  by_cases g : 97 ≤ c ∧ c ≤ 102
  · rw [digV_let g, if_neg (by omega)]
    refine Ev.pos (by omega) (Ev.succ ?_)
    simp only [mosaicref01_digit.j0]
    exact Ev.neg (by simp; omega) (Ev.pos g.1 (Ev.pos g.2 (Ev.some_ (by omega))))
  rw [digV_no h g, if_pos (by omega)]
  by_cases a : c ≥ 48
  · refine Ev.pos a (Ev.succ ?_)
    simp only [mosaicref01_digit.j0]
    refine Ev.neg (by simp; omega) ?_
    by_cases b : c ≥ 97
    · exact Ev.pos b (Ev.neg (by omega) (Ev.some_ rfl))
    · exact Ev.neg b (Ev.some_ rfl)
  · refine Ev.neg a (Ev.succ ?_)
    simp only [mosaicref01_digit.j0]
    exact Ev.neg (by simp) (Ev.neg (by omega) (Ev.some_ rfl))
theorem i64_small (n : Int) (h₀ : 0 ≤ n) (h₁ : n < 2 ^ 8) : IntKind.i64.wrap n = n := by rw [IntKind.wrap_i64]; omega
theorem or_digits (a b : Int) (h0 : 0 ≤ a) (h1 : a ≤ 15) (h2 : 0 ≤ b) (h3 : b ≤ 15) : Go.bits .or .i64 (wrap64 (a * 16)) b % 256 = 16 * a + b := by
  have e : wrap64 (a * 16) = a * 16 := by unfold wrap64; omega
  rw [e, bits_join .i64 8 (by decide) i64_small 4 (a * 16) b (by omega) (by omega) (by omega) h2 (by omega) (by omega)]
  omega
theorem drop_two (l : List Int) (i : Nat) (h : i + 1 < l.length) : l.drop i = l.getD i 0 :: l.getD (i + 1) 0 :: l.drop (i + 2) := by
  rw [List.drop_eq_getElem_cons (show i < l.length by omega), List.drop_eq_getElem_cons h]
  simp [List.getD_eq_getElem?_getD, h, show i < l.length by omega]
theorem bt_getD (s : ByteArray) (i : Nat) : bt s (i : Int) = (bytesOf s).getD i 0 := by rw [← rd_bytesOf, rd_nat]
theorem unhex_l0 (s : ByteArray) (hs : s.size ≤ 100000) (he : s.size % 2 = 0) (d : Nat) : ∀ (i : Nat) (acc : List Int), s.size = i + 2 * d → acc.length ≤ i → Ev (fun k => sha_Unhex.l0 k s acc (i : Int)) (unhexR acc (unhexL ((bytesOf s).drop i))) := by
  induction d with
  | zero =>
    intro i acc hi ha
    refine Ev.succ ?_
    simp only [sha_Unhex.l0]
    have hl := bytesOf_length s
    refine Ev.neg (by omega) (Ev.some_ ?_)
    rw [List.drop_of_length_le (by omega)]
    simp [unhexL, unhexR]
  | succ d ih =>
    intro i acc hi ha
    have hl := bytesOf_length s
    refine Ev.succ ?_
    simp only [sha_Unhex.l0]
    rw [drop_two _ i (by omega), unhexL, ← bt_getD, ← bt_getD]
    have e1 : wrap64 ((i : Int) + 1) = ((i + 1 : Nat) : Int) := by unfold wrap64; omega
    have e2 : wrap64 ((i : Int) + 2) = ((i + 2 : Nat) : Int) := by unfold wrap64; omega
    rw [e1, e2]
    have ra := bt_range s (i : Int)
    have rb := bt_range s ((i + 1 : Nat) : Int)
    generalize bt s (i : Int) = a at ra ⊢
    generalize bt s ((i + 1 : Nat) : Int) = b at rb ⊢
    have va := digV_range a
    have vb := digV_range b
    refine Ev.pos (by omega) (Ev.pos (by omega) (Ev.bind (digit_ev a ra.1 ra.2) (Ev.pos (by omega) (Ev.pos (by omega) (Ev.bind (digit_ev b rb.1 rb.2) ?_)))))
    by_cases c1 : digV a < 0
    · exact Ev.pos c1 (Ev.some_ (by rw [if_pos (.inl c1)]; rfl))
    by_cases c2 : digV b < 0
    · exact Ev.neg c1 (Ev.pos c2 (Ev.some_ (by rw [if_pos (.inr c2)]; rfl)))
    refine Ev.neg c1 (Ev.neg c2 (Ev.pos (by omega) ?_))
    rw [if_neg (by omega), or_digits _ _ (by omega) (by omega) (by omega) (by omega)]
    have := ih (i + 2) (acc ++ [16 * digV a + digV b]) (by omega) (by simp; omega)
    refine this.to ?_
    cases unhexL ((bytesOf s).drop (i + 2)) with
    | none => rfl
    | some r => simp [unhexR]
theorem refunhex_l0 (s : ByteArray) (hs : s.size ≤ 100000) (d : Nat) : ∀ (i : Nat) (acc : List Int), s.size = i + d → i % 2 = 0 → acc.length ≤ i → Ev (fun k => mosaicref01_Unhex.l0 k s acc (i : Int)) (unhexR acc (unhexL ((bytesOf s).drop i))) := by
  induction d using Nat.strongRecOn with
  | _ d ih =>
    intro i acc hi hm ha
    have hl := bytesOf_length s
    have e1 : wrap64 ((i : Int) + 1) = ((i + 1 : Nat) : Int) := by unfold wrap64; omega
    have e2 : wrap64 ((i : Int) + 2) = ((i + 2 : Nat) : Int) := by unfold wrap64; omega
    refine Ev.succ ?_
    simp only [mosaicref01_Unhex.l0]
    rw [e1]
    by_cases hd : i + 1 < s.size
    · rw [drop_two _ i (by omega), unhexL, ← bt_getD, ← bt_getD]
      have ra := bt_range s (i : Int)
      have rb := bt_range s ((i + 1 : Nat) : Int)
      obtain ⟨a, hA⟩ : ∃ a, bt s (i : Int) = a := ⟨_, rfl⟩
      obtain ⟨b, hBb⟩ : ∃ b, bt s ((i + 1 : Nat) : Int) = b := ⟨_, rfl⟩
      rw [hA] at ra ⊢
      rw [hBb] at rb ⊢
      have va := digV_range a
      have vb := digV_range b
      refine Ev.pos (by omega) (Ev.pos (by omega) (Ev.pos (by omega) (Ev.bind (refdigit_ev a ra.1 ra.2) ?_)))
      by_cases c1 : digV a < 0
      · rw [if_pos c1, if_pos (.inl c1)]
        refine Ev.pos rfl (Ev.succ ?_)
        simp only [mosaicref01_Unhex.j1]
        exact Ev.pos trivial (Ev.some_ rfl)
      rw [if_neg c1]
      refine Ev.neg (by omega) (Ev.pos (by omega) (Ev.bind (refdigit_ev b rb.1 rb.2) ?_))
      by_cases c2 : digV b < 0
      · rw [if_pos c2, if_pos (.inr c2)]
        refine Ev.succ ?_
        simp only [mosaicref01_Unhex.j1]
        exact Ev.pos (by decide) (Ev.some_ rfl)
      rw [if_neg c2, if_neg (by omega)]
      refine Ev.succ ?_
      simp only [mosaicref01_Unhex.j1]
      rw [e1, e2, hA, hBb]
      have r1 := refdigit_ev a ra.1 ra.2
      have r2 := refdigit_ev b rb.1 rb.2
      rw [if_neg c1] at r1
      rw [if_neg c2] at r2
      refine Ev.neg (by simp; omega) (Ev.pos (by omega) (Ev.pos (by omega) (Ev.bind r1 (Ev.pos (by omega) (Ev.pos (by omega) (Ev.bind r2 (Ev.pos (by omega) ?_)))))))
      rw [show ((16 * digV a) % 256 + digV b) % 256 = 16 * digV a + digV b by omega]
      have := ih (d - 2) (by omega) (i + 2) (acc ++ [16 * digV a + digV b]) (by omega) (by omega) (by simp; omega)
      refine this.to ?_
      cases unhexL ((bytesOf s).drop (i + 2)) with
      | none => rfl
      | some r => simp [unhexR]
    · refine Ev.neg (by omega) ?_
      by_cases hz : i = s.size
      · refine Ev.neg (by omega) (Ev.some_ ?_)
        rw [List.drop_of_length_le (by omega)]
        simp [unhexL, unhexR]
      · refine Ev.pos (by omega) (Ev.some_ ?_)
        rw [List.drop_eq_getElem_cons (by omega), List.drop_of_length_le (by omega)]
        rfl
theorem unhexL_odd : ∀ l : List Int, l.length % 2 = 1 → unhexL l = none
  | [], h => by simp at h
  | [_], _ => rfl
  | a :: b :: l, h => by
    rw [unhexL, unhexL_odd l (by simp at h; omega)]
    split <;> rfl
theorem unhex_ev (s : ByteArray) (hs : s.size ≤ 100000) : Ev (fun k => sha_Unhex.f k s) (unhexR [] (unhexL (bytesOf s))) := by
  unfold sha_Unhex.f
  by_cases h : ((s.size : Int) % 2) = 0
  · refine Ev.pos h ?_
    have := unhex_l0 s hs (by omega) (s.size / 2) 0 [] (by omega) (by simp)
    rwa [List.drop_zero] at this
  · refine Ev.neg h (Ev.some_ ?_)
    rw [unhexL_odd _ (by rw [bytesOf_length]; omega)]
    rfl
theorem refunhex_ev (s : ByteArray) (hs : s.size ≤ 100000) : Ev (fun k => mosaicref01_Unhex.f k s) (unhexR [] (unhexL (bytesOf s))) := by
  unfold mosaicref01_Unhex.f
  have := refunhex_l0 s hs s.size 0 [] (by omega) rfl (by simp)
  rwa [List.drop_zero] at this

theorem refhex_l0 (s : ByteArray) (hs : s.size ≤ 100000) (d : Nat) : ∀ (i : Nat), s.size = i + d → Ev (fun k => mosaicref01_Hex.l0 k s (hexL ((bytesOf s).take i)) (i : Int)) (strOfNums (hexL (bytesOf s))) := by
  induction d with
  | zero =>
    intro i hi
    refine Ev.succ ?_
    simp only [mosaicref01_Hex.l0]
    have hl := bytesOf_length s
    refine Ev.neg (by omega) (Ev.some_ ?_)
    rw [List.take_of_length_le (by omega)]
  | succ d ih =>
    intro i hi
    have hl := bytesOf_length s
    have hz : (hexL ((bytesOf s).take i)).length ≤ 2 * i := by
      rw [hexL_length, List.length_take]
      omega
    refine Ev.succ ?_
    simp only [mosaicref01_Hex.l0]
    have ra := bt_range s (i : Int)
    have hst := hexL_step (bytesOf s) i (by omega)
    rw [← bt_getD] at hst
    generalize bt s (i : Int) = a at ra hst ⊢
    have q1 : Int.tdiv a 16 = a / 16 := Int.tdiv_eq_ediv_of_nonneg ra.1
    have q2 : Int.tmod a 16 = a % 16 := Int.tmod_eq_emod_of_nonneg ra.1
    have q3 : a / 16 % 256 = a / 16 := by omega
    rw [q1, q2, q3, wrap_succ _ (by omega)]
    refine Ev.pos (by omega) (Ev.pos (by omega) (Ev.pos (by omega) (Ev.pos (by omega) (Ev.pos (by omega) (Ev.pos (by omega) (Ev.some_bind (Ev.pos (by simp; omega) ?_)))))))
    have := ih (i + 1) (by omega)
    rw [hst] at this
    exact this
theorem refhex_ev (s : ByteArray) (hs : s.size ≤ 100000) : Ev (fun k => mosaicref01_Hex.f k s) (strOfNums (hexL (bytesOf s))) := refhex_l0 s hs s.size 0 (by omega)

theorem digits16 (d : Int) (h0 : 0 ≤ d) (h1 : d < 16) : digV (bt hexDigits d) = d := by
  rcases (by omega : d = 0 ∨ d = 1 ∨ d = 2 ∨ d = 3 ∨ d = 4 ∨ d = 5 ∨ d = 6 ∨ d = 7 ∨ d = 8 ∨ d = 9 ∨ d = 10 ∨ d = 11 ∨ d = 12 ∨ d = 13 ∨ d = 14 ∨ d = 15) with rfl | rfl | rfl | rfl | rfl | rfl | rfl | rfl | rfl | rfl | rfl | rfl | rfl | rfl | rfl | rfl <;> decide +kernel
theorem digits_back (c : Int) (h : 0 ≤ digV c) : bt hexDigits (digV c) = c := by
  have : c = 48 ∨ c = 49 ∨ c = 50 ∨ c = 51 ∨ c = 52 ∨ c = 53 ∨ c = 54 ∨ c = 55 ∨ c = 56 ∨ c = 57 ∨ c = 97 ∨ c = 98 ∨ c = 99 ∨ c = 100 ∨ c = 101 ∨ c = 102 := by
    unfold digV at h
    split at h
    · omega
    · split at h <;> omega
  rcases this with rfl | rfl | rfl | rfl | rfl | rfl | rfl | rfl | rfl | rfl | rfl | rfl | rfl | rfl | rfl | rfl <;> decide +kernel
theorem unhex_hex : ∀ l : List Int, (∀ x ∈ l, 0 ≤ x ∧ x ≤ 255) → unhexL (hexL l) = some l
  | [], _ => rfl
  | c :: l, h => by
    have hc := h c (by simp)
    show unhexL (bt hexDigits (c / 16) :: bt hexDigits (c % 16) :: hexL l) = _
    rw [unhexL, digits16 _ (by omega) (by omega), digits16 _ (by omega) (by omega), if_neg (by omega), unhex_hex l (fun x hx => h x (by simp [hx]))]
    simp
    omega
theorem hex_unhex : ∀ l r : List Int, unhexL l = some r → hexL r = l ∧ l.length = 2 * r.length ∧ ∀ x ∈ r, 0 ≤ x ∧ x ≤ 255
  | [], r, h => by
    simp only [unhexL, Option.some.injEq] at h
    subst h
    exact ⟨rfl, rfl, fun x hx => by simp at hx⟩
  | [_], r, h => by simp [unhexL] at h
  | a :: b :: l, r, h => by
    rw [unhexL] at h
    split at h
    · simp at h
    · rename_i hn
      obtain ⟨r', hr', rfl⟩ := Option.map_eq_some_iff.1 h
      obtain ⟨h1, h2, h3⟩ := hex_unhex l r' hr'
      have va := digV_range a
      have vb := digV_range b
      refine ⟨?_, by simp [h2]; omega, fun x hx => ?_⟩
      · show bt hexDigits ((16 * digV a + digV b) / 16) :: bt hexDigits ((16 * digV a + digV b) % 16) :: hexL r' = _
        rw [show (16 * digV a + digV b) / 16 = digV a by omega, show (16 * digV a + digV b) % 16 = digV b by omega, digits_back a (by omega), digits_back b (by omega), h1]
      · rcases List.mem_cons.1 hx with rfl | hx
        · omega
        · exact h3 x hx
theorem bytesOf_range (s : ByteArray) : ∀ x ∈ bytesOf s, 0 ≤ x ∧ x ≤ 255 := by
  intro x hx
  obtain ⟨b, _, rfl⟩ := List.mem_map.1 hx
  have := b.toNat_lt
  omega
theorem strOfNums_bytesOf (s : ByteArray) : strOfNums (bytesOf s) = s := by
  apply ByteArray.ext
  unfold strOfNums bytesOf
  rw [List.map_map]
  have : (s.data.toList.map ((fun n : Int => UInt8.ofNat n.toNat) ∘ fun b : UInt8 => (b.toNat : Int))) = s.data.toList := by
    conv => rhs; rw [← List.map_id s.data.toList]
    refine List.map_congr_left fun x _ => ?_
    simp
  rw [this]
end Go.Proofs.Ytelcaepenfjloaa.Pure
