/- gauss.May: rows may be where n is in its bounds, there are not too many, and each one rises below n. -/
-- MANUAL mosaic/gauss.May making plain
-- ROOT mosaic/gauss.mayRow
-- ROOT mosaic/gauss.May$1
import Derived.Test.YtcddajdjmlmpdaaPrK
import Derived.Test.YtcddajdjmlmpdaaPr80
import Derived.Shelf.GgClosure.Gives
namespace Go.Proofs.Ytcddajdjmlmpdaa.Print
open Go.RowKit Go.Proofs.YtcddajdjmlmpdaaW.PrintWords Go.Proofs.YtcddajdjmlmpdaaW.PrintLast Go.Proofs.YtcddajdjmlmpdaaW.PrintMore
set_option linter.unusedVariables false
set_option linter.unusedSimpArgs false

/-- Numbers that rise from p on, below n. -/
def mayFrom (n : Int) : Int → List Int → Bool
  | _, [] => true
  | p, x :: xs => decide (p < x ∧ x < n) && mayFrom n x xs
def mayRowB (n : Int) (l : List Int) : Bool := mayFrom n (-1) l
def gauss_May.b (a0 : Int) (l1 : List (List Int)) : Bool := decide (0 ≤ a0) && (decide (a0 ≤ 160) && (decide (l1.length ≤ 400) && l1.all (mayRowB a0)))
def gauss_May.f (a0 : Int) (l1 : List (List Int)) : Option Bool := some (gauss_May.b a0 l1)

/-! ### the printed mayRow is mayRowB -/
theorem mayFrom_ge (n : Int) : ∀ (l : List Int) (p : Int), mayFrom n p l = true → ∀ x ∈ l, p < x ∧ x < n
  | [], p, h, x, hx => by simp at hx
  | y :: ys, p, h, x, hx => by
    simp only [mayFrom, Bool.and_eq_true, decide_eq_true_eq] at h
    rcases List.mem_cons.1 hx with rfl | hx
    · exact h.1
    · have := mayFrom_ge n ys y h.2 x hx
      omega
theorem rd_at (l : List Int) (i : Nat) (h : i < l.length) : rd l (i : Int) = l[i] := by simp [rd, List.getD_eq_getElem?_getD, h]
theorem mayRow_loop (n : Int) (l : List Int) (hl : l.length ≤ 9223372036854775807) (d : Nat) : ∀ (k i : Nat) (p : Int), l.length - i = d → i ≤ l.length → d < k → (i = 0 → p = -1) → (0 < i → p = rd l ((i : Int) - 1) ∧ 0 ≤ p) →
    gauss_mayRow.l0 k n l l (l.length : Int) (i : Int) = some (mayFrom n p (l.drop i)) := by
  induction d with
  | zero =>
    intro k i p hd hi hk hp h0
    obtain ⟨k, rfl⟩ : ∃ m, k = m + 1 := ⟨k - 1, by omega⟩
    simp only [gauss_mayRow.l0]
    rw [if_neg (by omega), List.drop_of_length_le (by omega)]
    rfl
  | succ d ih =>
    intro k i p hd hi hk hp h0
    obtain ⟨k, rfl⟩ : ∃ m, k = m + 1 := ⟨k - 1, by omega⟩
    have hlt : i < l.length := by omega
    have hx : rd l (i : Int) = l[i] := rd_at l i hlt
    have hp1 : -1 ≤ p := by
      rcases Nat.eq_zero_or_pos i with e | e
      · have := hp e
        omega
      · have := (h0 e).2
        omega
    rw [List.drop_eq_getElem_cons hlt]
    simp only [mayFrom, gauss_mayRow.l0]
    rw [if_pos (by omega), if_pos (by omega), if_pos (by omega), hx]
    have hw : wrap64 ((i : Int) + 1) = ((i + 1 : Nat) : Int) := by unfold wrap64; omega
    generalize hy : l[i] = y at hx
    by_cases c1 : y < 0
    · rw [if_pos c1, decide_eq_false (by omega)]
      rfl
    rw [if_neg c1]
    by_cases c2 : y ≥ n
    · rw [if_pos c2, decide_eq_false (by omega)]
      rfl
    rw [if_neg c2]
    have go : gauss_mayRow.l0 k n l l (l.length : Int) (wrap64 ((i : Int) + 1)) = some (mayFrom n y (l.drop (i + 1))) := by
      rw [hw]
      refine ih k (i + 1) y (by omega) (by omega) (by omega) (by omega) (fun _ => ⟨?_, by omega⟩)
      rw [show ((i + 1 : Nat) : Int) - 1 = (i : Int) by omega]
      exact hx.symm
    by_cases c3 : (i : Int) > 0
    · have hw1 : wrap64 ((i : Int) - 1) = (i : Int) - 1 := by unfold wrap64; omega
      obtain ⟨e1, e2⟩ := h0 (by omega)
      rw [if_pos c3, hw1, if_pos (by omega), if_pos (by omega), ← e1]
      by_cases c4 : y ≤ p
      · rw [if_pos c4, decide_eq_false (by omega)]
        rfl
      · rw [if_neg c4, go, decide_eq_true (by omega)]
        rfl
    · have := hp (by omega)
      rw [if_neg c3, go, decide_eq_true (by omega)]
      rfl
theorem mayRow_spec (n : Int) (l : List Int) (hl : l.length ≤ 9223372036854775807) : gauss_mayRow.f (l.length + 1) n l = some (mayRowB n l) := by
  have := mayRow_loop n l hl l.length (l.length + 1) 0 (-1) (by omega) (by omega) (by omega) (fun _ => rfl) (fun h => absurd h (by omega))
  unfold gauss_mayRow.f mayRowB
  simpa using this

/-! ### the closure; IndexFunc and ContainsFunc at rows -/
theorem May_closure (n : Int) (B : Nat) (W : World) (hcell : W.cell? ⟨B, 0, none⟩ = some (.int .i64 n)) (v : Value) (x : List Int) (hK : (Kd.slice 3 (Kd.int .i64)).K W x [v]) :
    Calls Try.prog 79 #[v, .pointer (some ⟨B, 0, none⟩)] W fun e w' => e = .returned (.bool (!mayRowB n x)) ∧ Below W.heap.size W w' := by
  obtain ⟨A, c, hv, hc, hC⟩ := hK
  obtain rfl : v = .slice A x.length c := by simpa using hv
  have hs := mayRow_spec n x hC.2.1
  generalize mayRowB n x = r at hs
  have HS := Aside0.mk hs
  have HC := Aside0.mk hC
  have HL := Aside0.mk hc
  clear hs hC hc hv
  go_enter Try.func79, Try.ntmps79
  go_wp2_with (go_at_call 80; refine (gauss_mayRow.calls (x.length + 1) n A c x r _ HC.out HL.out HS.out).mono ?_; rintro e w' ⟨rfl, ⟨⟨q, rfl⟩⟩⟩)
  go_ret
  exact ⟨rfl, pw_below_drewN (Below.refl _ _) _⟩

/-- The place of the first element of which p holds, or -1. -/
def idxF {α : Type} (p : α → Bool) : List α → Nat → Int
  | [], _ => -1
  | x :: xs, i => if p x = true then (i : Int) else idxF p xs (i + 1)
theorem idxF_any {α : Type} (p : α → Bool) : ∀ (l : List α) (i : Nat), decide (idxF p l i ≥ 0) = l.any p
  | [], i => by simp [idxF]
  | x :: xs, i => by
    unfold idxF
    by_cases h : p x = true
    · rw [if_pos h]
      simp [h]
    · rw [if_neg h, idxF_any p xs (i + 1)]
      simp [h]
theorem idxF_hit {α : Type} (p : α → Bool) (l : List α) (i : Nat) (x : α) (xs : List α) (h : l.drop i = x :: xs) (hp : p x = true) : idxF p (l.drop i) i = i := by
  rw [h]
  simp [idxF, hp]
theorem idxF_step {α : Type} (p : α → Bool) (l : List α) (i : Nat) (h : i < l.length) (z : α) (hp : p (l.getD i z) = false) : idxF p (l.drop i) i = idxF p (l.drop (i + 1)) (i + 1) := by
  rw [List.drop_eq_getElem_cons h]
  have : l.getD i z = l[i] := by simp [List.getD_eq_getElem?_getD, h]
  rw [this] at hp
  simp [idxF, hp]

set_option maxHeartbeats 2000000 in
theorem indexFunc_rows (p : List Int → Bool) (g : Nat) (lb : Array Value) (eg : ∀ args w, (callFunc g args).run Try.prog w = .ok (.enter g args) w) (A : Option Addr) (c : Nat) (l : List (List Int)) (w : World)
    (hr : Kd.C (Kd.slice 3 (Kd.int .i64)) w A l.length l)
    (hp : ∀ (W : World) (v : Value) (x : List Int), Below w.heap.size w W → (Kd.slice 3 (Kd.int .i64)).K W x [v] → Calls Try.prog g (#[v] ++ lb) W fun e w' => e = .returned (.bool (p x)) ∧ Below W.heap.size W w') :
    Calls Try.prog 83 #[.slice A l.length c, .func (.func g) #[] lb] w fun e w' => e = .returned (.int .i64 (idxF p l 0)) ∧ Below w.heap.size w w' := by
  have hlen := hr.2.1
  have HR := Aside0.mk hr
  have HP := Aside0.mk hp
  clear hr hp
  obtain ⟨res, hres⟩ : ∃ res, res = idxF p l 0 := ⟨_, rfl⟩
  rw [← hres]
  have HRES := Aside0.mk hres
  clear hres
  go_enter Try.func83, Try.ntmps83
  go_wp2
  go_loopg [5, 8] l.length (fun gg _ s8 wr => ∃ kk : Nat, kk ≤ l.length ∧ l.length - kk ≤ gg ∧ s8 = .int .i64 kk ∧ Aside0 (Below w.heap.size w wr) ∧ Aside0 (res = idxF p (l.drop kk) kk))
  case atStart => exact ⟨0, Nat.zero_le _, by omega, rfl, ⟨Below.refl _ _⟩, ⟨by rw [HRES.out]; rfl⟩⟩
  case round =>
    clear HRES
    obtain ⟨kk, hkk, hg, rfl, HB, HA⟩ := hrel
    by_cases hlt : kk < l.length
    · have hltz : (kk : Int) < (l.length : Int) := by omega
      obtain ⟨ad, cs, e, hcl, hK, hcell⟩ := Kd.C_get (Kd.C_below HR.out HB.out) [] (kk : Int) (by omega) hltz
      cases e
      obtain ⟨v, hv⟩ : ∃ v, cs = [v] := by
        obtain ⟨A2, c2, h2, _⟩ := hK
        exact ⟨_, h2⟩
      subst hv
      have hx : wr.cell? (ad.add kk) = some v := by
        have := hcell 0 v rfl
        rw [show (Kd.slice 3 (Kd.int .i64)).sz = 1 from rfl] at this
        simpa using this
      have hcall := HP.out wr v _ HB.out hK
      clear hcell hK hcl
      rw [Int.toNat_natCast] at hcall
      cases hq : p (l.getD kk []) with
      | true =>
        rw [hq] at hcall
        have HQ := Aside0.mk hq
        clear hq
        have HCALL := Aside0.mk hcall
        clear hcall
        go_wp2_with (go_at_fn g; refine HCALL.out.mono ?_; rintro e w' ⟨rfl, hb⟩)
        go_ret
        refine ⟨?_, below_then HB.out HB.out.size hb⟩
        rw [HA.out, idxF_hit p l kk _ _ (List.drop_eq_getElem_cons hlt) (by have := HQ.out; simpa [List.getD_eq_getElem?_getD, hlt] using this)]
        rfl
      | false =>
        rw [hq] at hcall
        have HQ := Aside0.mk hq
        clear hq
        have HCALL := Aside0.mk hcall
        clear hcall
        go_wp2_with (go_at_fn g; refine HCALL.out.mono ?_; rintro e w' ⟨rfl, hb⟩)
        go_roundg (l.length - (kk + 1))
        case measure => omega
        case rel => exact ⟨kk + 1, by omega, by omega, by go_num, ⟨below_then HB.out HB.out.size hb⟩, ⟨by rw [HA.out, idxF_step p l kk hlt [] HQ.out]⟩⟩
    · have hltz : ¬ (kk : Int) < (l.length : Int) := by omega
      have : kk = l.length := by omega
      subst this
      go_wp2
      go_ret
      refine ⟨?_, HB.out⟩
      rw [HA.out, List.drop_length]
      rfl

set_option maxHeartbeats 1000000 in
theorem containsFunc_rows (p : List Int → Bool) (g : Nat) (lb : Array Value) (eg : ∀ args w, (callFunc g args).run Try.prog w = .ok (.enter g args) w) (A : Option Addr) (c : Nat) (l : List (List Int)) (w : World)
    (hr : Kd.C (Kd.slice 3 (Kd.int .i64)) w A l.length l)
    (hp : ∀ (W : World) (v : Value) (x : List Int), Below w.heap.size w W → (Kd.slice 3 (Kd.int .i64)).K W x [v] → Calls Try.prog g (#[v] ++ lb) W fun e w' => e = .returned (.bool (p x)) ∧ Below W.heap.size W w') :
    Calls Try.prog 78 #[.slice A l.length c, .func (.func g) #[] lb] w fun e w' => e = .returned (.bool (l.any p)) ∧ Below w.heap.size w w' := by
  have hcon := indexFunc_rows p g lb eg A c l w hr hp
  rw [← idxF_any p l 0]
  generalize idxF p l 0 = r at hcon
  have HCON := Aside0.mk hcon
  clear hcon hr hp
  go_enter Try.func78, Try.ntmps78
  go_wp2_with (go_at_call 83; refine HCON.out.mono ?_; rintro e w' ⟨rfl, hb⟩)
  go_ret
  exact ⟨rfl, hb⟩

theorem not_any_not {α : Type} (p : α → Bool) (l : List α) : (!l.any fun x => !p x) = l.all p := by simp [List.all_eq_not_any_not]

set_option maxHeartbeats 1000000 in
theorem gauss_May.calls (a0 : Int) (A1 : Option Addr) (c1 : Nat) (l1 : List (List Int)) (r : Bool) (w : World) (hr1 : Kd.C (Kd.slice 3 (Kd.int .i64)) w A1 l1.length l1) (hc1 : l1.length ≤ c1) (h : gauss_May.f a0 l1 = some r) :
    Calls Try.prog 73 #[.int .i64 a0, .slice A1 l1.length c1] w fun e w' => e = .returned (.bool r) ∧ Below w.heap.size w w' := by
  have eg : ∀ args w, (callFunc 79 args).run Try.prog w = .ok (.enter 79 args) w := enters_of Try.func79 (by kernel_rfl) rfl
  have hb : gauss_May.b a0 l1 = r := by simpa [gauss_May.f] using h
  have HB := Aside0.mk hb
  clear h hb
  have bel : Below w.heap.size w (w.alloc (.cells #[.int .i64 a0] 3)) := below_alloc (Below.refl _ _) _
  have hcon := containsFunc_rows (fun x => !mayRowB a0 x) 79 #[.pointer (some ⟨w.heap.size, 0, none⟩)] eg A1 c1 l1 (w.alloc (.cells #[.int .i64 a0] 3)) (Kd.C_below hr1 bel)
    (fun W v x hb hK => May_closure a0 w.heap.size W ((hb.cell (p := ⟨w.heap.size, 0, none⟩) (by simp)).trans (by simp)) v x hK)
  have hany := not_any_not (mayRowB a0) l1
  generalize (l1.any fun x => !mayRowB a0 x) = q at hcon hany
  have HCON := Aside0.mk hcon
  have HANY := Aside0.mk hany
  clear hcon hany hr1
  have go : ∀ b : Bool, gauss_May.b a0 l1 = b → r = b := fun b h => by rw [← HB.out, h]
  have HGO := Aside0.mk go
  clear go
  by_cases d1 : 0 ≤ a0
  · by_cases d2 : a0 ≤ 160
    · by_cases d3 : l1.length ≤ 400
      · have hfin := HGO.out (!q) (by simp [gauss_May.b, d1, d2, d3, ← HANY.out])
        have HF := Aside0.mk hfin
        clear hfin
        have d3z : (l1.length : Int) ≤ 400 := by omega
        go_enter Try.func73, Try.ntmps73
        go_wp2_with (go_at_call 78; refine HCON.out.mono ?_; rintro e w' ⟨rfl, hb⟩)
        go_ret
        exact ⟨by rw [HF.out]; rfl, below_then bel (by simp) (by simpa using hb)⟩
      · have hfin := HGO.out false (by simp [gauss_May.b, d3])
        have HF := Aside0.mk hfin
        clear hfin
        have d3z : ¬ (l1.length : Int) ≤ 400 := by omega
        go_enter Try.func73, Try.ntmps73
        go_wp2
        go_ret
        exact ⟨by rw [HF.out]; rfl, bel⟩
    · have hfin := HGO.out false (by simp [gauss_May.b, d2])
      have HF := Aside0.mk hfin
      clear hfin
      go_enter Try.func73, Try.ntmps73
      go_wp2
      go_ret
      exact ⟨by rw [HF.out]; rfl, bel⟩
  · have hfin := HGO.out false (by simp [gauss_May.b, d1])
    have HF := Aside0.mk hfin
    clear hfin
    go_enter Try.func73, Try.ntmps73
    go_wp2
    go_ret
    exact ⟨by rw [HF.out]; rfl, bel⟩
end Go.Proofs.Ytcddajdjmlmpdaa.Print
