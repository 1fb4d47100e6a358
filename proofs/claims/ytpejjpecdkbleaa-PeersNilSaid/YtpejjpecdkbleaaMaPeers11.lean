/- peers: a table as a list of peers; every act, whatever its arguments. -/
import Derived.Test.YtpejjpecdkbleaaPrK
import Derived.Test.YtpejjpecdkbleaaMaPeers1
import Derived.Test.YtpejjpecdkbleaaMaPeers4
import Derived.Test.YtpejjpecdkbleaaMaPeers5
import Derived.Test.YtpejjpecdkbleaaMaPeers6
import Derived.Test.YtpejjpecdkbleaaMaPeers7
import Derived.Test.YtpejjpecdkbleaaMaPeers9
import Derived.Test.YtpejjpecdkbleaaMaPeers10
import Derived.IntWalk
namespace Go.Proofs.Ytpejjpecdkbleaa.Print
open Go.RowKit Go.Proofs.YtpejjpecdkbleaaW.PrintWords Go.Proofs.YtpejjpecdkbleaaW.PrintLast Go.Proofs.YtpejjpecdkbleaaW.PrintMore
set_option linter.unusedVariables false
set_option linter.unusedSimpArgs false

abbrev PM := List (Option Pr)
def absP (ps : Slots) : PM := ps.map (Option.map (·.2))
/-- What always holds of a table. -/
structure InvM (m : PM) (bs : List Bool) : Prop where
  len : m.length = 16
  lb : bs.length = 16
  node : ∀ (i : Nat) (p : Pr), m[i]? = some (some p) → p.f0 = (i : Int) ∧ 1 ≤ i ∧ (0 ≤ p.f6 ∧ p.f6 ≤ 1099511627776) ∧ 0 ≤ p.f7 ∧ p.f7 ≤ 1099511627776
  ban : ∀ i : Nat, bs[i]? = some true → m[i]? = some none
def FootT (W : World) (k : Nat) : Prop := ∃ cells t, W.heap[k]? = some (.cells cells t (0, 0)) ∧ (t = 33 ∨ t = 85)
structure PT (w W : World) (g : Nat) (room tmo : Int) (m : PM) (bs : List Bool) : Prop where
  tab : ∃ ps, Tab w W g room tmo ps bs ∧ absP ps = m
  inv : InvM m bs
/-- What an act leaves. -/
structure Did (w W W2 : World) (g : Nat) (room tmo : Int) (m : PM) (bs : List Bool) : Prop where
  pt : PT w W2 g room tmo m bs
  kept : Kept W W2 (FootT W)
section
variable {w W W1 W2 : World} {g : Nat} {room tmo now : Int} {ps ps' : Slots} {bs bs' : List Bool} {m m' : PM}
theorem Tab.footT (t : Tab w W g room tmo ps bs) (k : Nat) (hk : Foot g ps k) : FootT W k := by
  rcases hk with rfl | ⟨i, p, hi⟩
  · exact ⟨_, _, t.blk, .inr rfl⟩
  · exact ⟨_, _, (t.node i k p hi).1, .inl rfl⟩
theorem Acted.did (a : Acted w W W2 g room tmo ps ps' bs') (t : Tab w W g room tmo ps bs) (hm : absP ps' = m') (hi : InvM m' bs') : Did w W W2 g room tmo m' bs' := ⟨⟨⟨ps', a.tab, hm⟩, hi⟩, a.kept.mono (t.footT)⟩
theorem PT.bel (t : PT w W g room tmo m bs) : Below w.heap.size w W := by
  obtain ⟨⟨ps, h, _⟩, _⟩ := t
  exact h.bel
theorem PT.below (t : PT w W g room tmo m bs) (hb : Below W.heap.size W W2) : PT w W2 g room tmo m bs := by
  obtain ⟨⟨ps, h, he⟩, hi⟩ := t
  exact ⟨⟨ps, h.below hb, he⟩, hi⟩
/-- Rows of other types stay where they are. -/
theorem rows_foot {α : Type} {d : Kd α} {e : Nat} {base : Nat} {ok : Nat → Prop} {v : Value} {xs : List α} (h : Kd.R d e W base ok v xs) (hk : Kept W W2 (FootT W)) (ht : ∀ q, q ∈ e :: d.E → q ≠ 33 ∧ q ≠ 85) : Kd.R d e W2 base ok v xs :=
  Kd.R_mono (Kd.R_move (Kd.R_bound h) (fun k hk1 => hk.2 k hk1.2.2.1 (by
    obtain ⟨_, _, _, q, hq, cells, hc⟩ := hk1
    rintro ⟨cells', t, hc', ht'⟩
    rw [hc] at hc'
    injection hc' with hc'
    injection hc' with _ e2
    rcases ht' with h1 | h1
    · exact (ht q hq).1 (e2.trans h1)
    · exact (ht q hq).2 (e2.trans h1)))) (fun _ hk => hk.1)
theorem absP_len (ps : Slots) : (absP ps).length = ps.length := List.length_map _
theorem absP_set (ps : Slots) (n b : Nat) (p : Pr) : absP (ps.set n (some (b, p))) = (absP ps).set n (some p) := by
  unfold absP
  rw [List.map_set]
  rfl
theorem absP_none (ps : Slots) (n : Nat) : absP (ps.set n none) = (absP ps).set n none := by
  unfold absP
  rw [List.map_set]
  rfl
theorem absP_some {n : Nat} {p : Pr} (h : (absP ps)[n]? = some (some p)) : ∃ b, ps[n]? = some (some (b, p)) := by
  unfold absP at h
  rw [List.getElem?_map] at h
  match hx : ps[n]? with
  | none => rw [hx] at h; cases h
  | some none => rw [hx] at h; cases h
  | some (some (b, q)) =>
    rw [hx] at h
    simp only [Option.map_some, Option.some.injEq] at h
    exact ⟨b, by rw [h]⟩
theorem absP_no {n : Nat} (h : (absP ps).getD n none = none) : ps.getD n none = none := by
  unfold absP at h
  rw [List.getD_eq_getElem?_getD, List.getElem?_map] at h
  rw [List.getD_eq_getElem?_getD]
  match hx : ps[n]? with
  | none => rfl
  | some none => rfl
  | some (some (b, q)) =>
    rw [hx] at h
    cases h
theorem absP_there (ps : Slots) : there ps = (absP ps).filterMap id := by
  unfold there absP
  rw [List.filterMap_map]
  rfl
/-- A peer that is there. -/
def atM (m : PM) (n : Int) : Option Pr := if 1 ≤ n ∧ n ≤ 15 then m.getD n.toNat none else none
theorem atM_some {n : Int} {p : Pr} (h : atM m n = some p) : ∃ k : Nat, n = (k : Int) ∧ 1 ≤ k ∧ k ≤ 15 ∧ m[k]? = some (some p) := by
  unfold atM at h
  split at h
  · rename_i hn
    refine ⟨n.toNat, by omega, by omega, by omega, ?_⟩
    rw [List.getD_eq_getElem?_getD] at h
    match hx : m[n.toNat]? with
    | none => rw [hx] at h; cases h
    | some none => rw [hx] at h; cases h
    | some (some q) =>
      rw [hx] at h
      simp only [Option.getD_some, Option.some.injEq] at h
      rw [h]
  · cases h
theorem atM_none {n : Int} (h : atM m n = none) : ¬ (1 ≤ n ∧ n ≤ 15) ∨ m.getD n.toNat none = none := by
  unfold atM at h
  split at h
  · exact .inr h
  · rename_i hn
    exact .inl hn
theorem atM_not {n : Int} (hm : absP ps = m) (h : atM m n = none) : ¬ (1 ≤ n ∧ n ≤ 15) ∨ ps.getD n.toNat none = none := by
  rcases atM_none h with h | h
  · exact .inl h
  · subst hm
    exact .inr (absP_no h)
/-! ### What an act makes of it -/
def setM (m : PM) (n : Int) (f : Pr → Pr) : PM := match atM m n with
  | some p => m.set n.toNat (some (f p))
  | none => m
def withC (m : PM) (n : Int) : Int := match atM m n with
  | some _ => 0
  | none => 4
theorem set_get {α : Type} {m : List α} {n : Nat} {x : α} (i : Nat) (y : α) (h : (m.set n x)[i]? = some y) : (i = n ∧ y = x) ∨ (i ≠ n ∧ m[i]? = some y) := by
  by_cases hin : i = n
  · subst hin
    by_cases hl : i < m.length
    · rw [List.getElem?_set_self hl] at h
      exact .inl ⟨rfl, (Option.some.inj h).symm⟩
    · rw [List.getElem?_eq_none (by rw [List.length_set]; omega)] at h
      cases h
  · rw [List.getElem?_set_ne (Ne.symm hin)] at h
    exact .inr ⟨hin, h⟩
theorem InvM.put (hi : InvM m bs) {n : Nat} (h1 : 1 ≤ n) {p : Pr} (hp : p.f0 = (n : Int) ∧ (0 ≤ p.f6 ∧ p.f6 ≤ 1099511627776) ∧ 0 ≤ p.f7 ∧ p.f7 ≤ 1099511627776) (hb : bs.getD n false = false) : InvM (m.set n (some p)) bs := by
  refine ⟨by rw [List.length_set]; exact hi.len, hi.lb, fun i q hq => ?_, fun i hbi => ?_⟩
  · rcases set_get i _ hq with ⟨rfl, e⟩ | ⟨_, hq⟩
    · cases e
      exact ⟨hp.1, h1, hp.2.1, hp.2.2⟩
    · exact hi.node i q hq
  · by_cases hin : i = n
    · subst hin
      rw [List.getD_eq_getElem?_getD, hbi] at hb
      cases hb
    · rw [List.getElem?_set_ne (Ne.symm hin)]
      exact hi.ban i hbi
theorem InvM.drop (hi : InvM m bs) (n : Nat) : InvM (m.set n none) bs := by
  refine ⟨by rw [List.length_set]; exact hi.len, hi.lb, fun i q hq => ?_, fun i hbi => ?_⟩
  · rcases set_get i _ hq with ⟨rfl, e⟩ | ⟨_, hq⟩
    · cases e
    · exact hi.node i q hq
  · have := hi.ban i hbi
    by_cases hin : i = n
    · subst hin
      rw [List.getElem?_set_self (List.getElem?_eq_some_iff.1 this).1]
    · rw [List.getElem?_set_ne (Ne.symm hin)]
      exact this
theorem InvM.banned (hi : InvM m bs) {n : Nat} (hn : n < 16) : InvM (m.set n none) (bs.set n true) := by
  refine ⟨by rw [List.length_set]; exact hi.len, by rw [List.length_set]; exact hi.lb, (hi.drop n).node, fun i hbi => ?_⟩
  rcases set_get i _ hbi with ⟨rfl, _⟩ | ⟨_, hbi⟩
  · rw [List.getElem?_set_self (by rw [hi.len]; exact hn)]
  · exact (hi.drop n).ban i hbi
theorem InvM.free (hi : InvM m bs) {n : Nat} {p : Pr} (h : m[n]? = some (some p)) : bs.getD n false = false := by
  rw [List.getD_eq_getElem?_getD]
  match hx : bs[n]? with
  | none => rfl
  | some false => rfl
  | some true =>
    have := hi.ban n hx
    rw [h] at this
    cases this
theorem InvM.upd (hi : InvM m bs) {n : Nat} {p p' : Pr} (h : m[n]? = some (some p)) (h0 : p'.f0 = p.f0) (h6 : 0 ≤ p'.f6 ∧ p'.f6 ≤ 1099511627776) (h7 : 0 ≤ p'.f7 ∧ p'.f7 ≤ 1099511627776) : InvM (m.set n (some p')) bs := by
  have := hi.node n p h
  exact hi.put this.2.1 ⟨h0.trans this.1, h6, h7⟩ (hi.free h)
theorem timed_of (hi : InvM m bs) (hm : absP ps = m) : Timed ps := by
  intro i b p h
  have : m[i]? = some (some p) := by
    subst hm
    unfold absP
    rw [List.getElem?_map, h]
    rfl
  exact (hi.node i p this).2.2
theorem PT_new (room tmo : Int) (w : World) (h : 1 ≤ room ∧ room ≤ 15 ∧ 1 ≤ tmo ∧ tmo ≤ 1099511627776) :
    Calls Try.prog 12 #[.int .i64 room, .int .i64 tmo] w fun e w' => ∃ g, e = .returned (.pointer (some ⟨g, 0, none⟩)) ∧ PT w w' g room tmo (List.replicate 16 none) noB := by
  refine (Print.new_yes room tmo w h).mono ?_
  rintro e w' ⟨g, rfl, t⟩
  refine ⟨g, rfl, ⟨⟨_, t, rfl⟩, ⟨rfl, rfl, fun i p hp => ?_, fun i hb => ?_⟩⟩⟩
  · have := List.mem_of_getElem? hp
    simp at this
  · have := List.mem_of_getElem? hb
    simp [noB] at this
/-- A setter, whatever its arguments. -/
theorem set_any {f : Pr → Pr} {n : Int} {F : Nat} {x : Value} (t : PT w W g room tmo m bs)
    (yes : ∀ (ps : Slots), Tab w W g room tmo ps bs → ∀ (k : Nat), 1 ≤ k → k ≤ 15 → ∀ (b : Nat) (p : Pr), ps[k]? = some (some (b, p)) → (0 ≤ p.f7 ∧ p.f7 ≤ 1099511627776) → Calls Try.prog F #[.pointer (some ⟨g, 0, none⟩), .int .i64 k, x] W fun e W2 => e = .returned (.int .i64 0) ∧ Acted w W W2 g room tmo ps (ps.set k (some (b, f p))) bs)
    (no : ∀ (ps : Slots), Tab w W g room tmo ps bs → (¬ (1 ≤ n ∧ n ≤ 15) ∨ ps.getD n.toNat none = none) → Calls Try.prog F #[.pointer (some ⟨g, 0, none⟩), .int .i64 n, x] W fun e W2 => e = .returned (.int .i64 4) ∧ Acted w W W2 g room tmo ps ps bs)
    (hf : ∀ p, (f p).f0 = p.f0) (h6 : ∀ p, (0 ≤ p.f6 ∧ p.f6 ≤ 1099511627776) → 0 ≤ (f p).f6 ∧ (f p).f6 ≤ 1099511627776) (h7 : ∀ p, (0 ≤ p.f7 ∧ p.f7 ≤ 1099511627776) → 0 ≤ (f p).f7 ∧ (f p).f7 ≤ 1099511627776) :
    Calls Try.prog F #[.pointer (some ⟨g, 0, none⟩), .int .i64 n, x] W fun e W2 => e = .returned (.int .i64 (withC m n)) ∧ Did w W W2 g room tmo (setM m n f) bs := by
  obtain ⟨⟨ps, tab, hm⟩, inv⟩ := t
  match hx : atM m n with
  | none =>
    have e1 : withC m n = 4 := by unfold withC; rw [hx]
    have e2 : setM m n f = m := by unfold setM; rw [hx]
    rw [e1, e2]
    refine (no ps tab (atM_not hm hx)).mono ?_
    rintro e W2 ⟨rfl, a⟩
    exact ⟨rfl, a.did tab hm inv⟩
  | some p =>
    have e1 : withC m n = 0 := by unfold withC; rw [hx]
    have e2 : setM m n f = m.set n.toNat (some (f p)) := by unfold setM; rw [hx]
    rw [e1, e2]
    obtain ⟨k, rfl, k1, k2, hk⟩ := atM_some hx
    rw [Int.toNat_natCast]
    have nd := inv.node k p hk
    obtain ⟨b, hb⟩ : ∃ b, ps[k]? = some (some (b, p)) := by
      subst hm
      exact absP_some hk
    refine (yes ps tab k k1 k2 b p hb nd.2.2.2).mono ?_
    rintro e W2 ⟨rfl, a⟩
    exact ⟨rfl, a.did tab (by rw [absP_set, hm]) (inv.upd hk (hf p) (h6 p nd.2.2.1) (h7 p nd.2.2.2))⟩
def tickB (x : Int) : Bool := decide (0 ≤ x ∧ x ≤ 1099511627776)
theorem PT.Hear_any (t : PT w W g room tmo m bs) (n x : Int) : Calls Try.prog 19 #[.pointer (some ⟨g, 0, none⟩), .int .i64 n, .int .i64 x] W fun e W2 => e = .returned (.int .i64 (if tickB x = true then withC m n else 1)) ∧ Did w W W2 g room tmo (if tickB x = true then setM m n (fun p => { p with f6 := mx p.f6 x }) else m) bs := by
  by_cases hx : tickB x = true
  · rw [if_pos hx, if_pos hx]
    have hx2 : 0 ≤ x ∧ x ≤ 1099511627776 := of_decide_eq_true hx
    exact set_any t (fun ps tab k k1 k2 b p hp _ => tab.Hear_yes k k1 k2 hp x hx2) (fun ps tab hn => tab.Hear_none n hn x hx2) (fun _ => rfl) (fun p hp => by show 0 ≤ mx p.f6 x ∧ mx p.f6 x ≤ _; unfold mx; split <;> omega) (fun p hp => hp)
  · rw [if_neg hx, if_neg hx]
    obtain ⟨⟨ps, tab, hm⟩, inv⟩ := t
    refine (tab.Hear_bad n x (fun h => hx (decide_eq_true h))).mono ?_
    rintro e W2 ⟨rfl, a⟩
    exact ⟨rfl, a.did tab hm inv⟩
theorem PT.Count_any (t : PT w W g room tmo m bs) (n x : Int) : Calls Try.prog 15 #[.pointer (some ⟨g, 0, none⟩), .int .i64 n, .int .i64 x] W fun e W2 => e = .returned (.int .i64 (if tickB x = true then withC m n else 1)) ∧ Did w W W2 g room tmo (if tickB x = true then setM m n (fun p => { p with f7 := mn (p.f7 + x) 1099511627776 }) else m) bs := by
  by_cases hx : tickB x = true
  · rw [if_pos hx, if_pos hx]
    have hx2 : 0 ≤ x ∧ x ≤ 1099511627776 := of_decide_eq_true hx
    exact set_any t (fun ps tab k k1 k2 b p hp hq => tab.Count_yes k k1 k2 hp x hx2 hq) (fun ps tab hn => tab.Count_none n hn x hx2) (fun _ => rfl) (fun p hp => hp) (fun p hp => by show 0 ≤ mn (p.f7 + x) 1099511627776 ∧ mn (p.f7 + x) 1099511627776 ≤ _; unfold mn; split <;> omega)
  · rw [if_neg hx, if_neg hx]
    obtain ⟨⟨ps, tab, hm⟩, inv⟩ := t
    refine (tab.Count_bad n x (fun h => hx (decide_eq_true h))).mono ?_
    rintro e W2 ⟨rfl, a⟩
    exact ⟨rfl, a.did tab hm inv⟩
theorem PT.SetHave_any (t : PT w W g room tmo m bs) (n : Int) (x : ByteArray) : Calls Try.prog 29 #[.pointer (some ⟨g, 0, none⟩), .int .i64 n, .string x] W fun e W2 => e = .returned (.int .i64 (if (x.size : Int) ≤ 20 then withC m n else 1)) ∧ Did w W W2 g room tmo (if (x.size : Int) ≤ 20 then setM m n (fun p => { p with f2 := x }) else m) bs := by
  by_cases hx : (x.size : Int) ≤ 20
  · rw [if_pos hx, if_pos hx]
    exact set_any t (fun ps tab k k1 k2 b p hp _ => tab.SetHave_yes k k1 k2 hp x hx) (fun ps tab hn => tab.SetHave_none n hn x hx) (fun _ => rfl) (fun p hp => hp) (fun p hp => hp)
  · rw [if_neg hx, if_neg hx]
    obtain ⟨⟨ps, tab, hm⟩, inv⟩ := t
    refine (tab.SetHave_bad n x hx).mono ?_
    rintro e W2 ⟨rfl, a⟩
    exact ⟨rfl, a.did tab hm inv⟩
theorem PT.SetWants_any (t : PT w W g room tmo m bs) (n : Int) (x : Bool) : Calls Try.prog 30 #[.pointer (some ⟨g, 0, none⟩), .int .i64 n, .bool x] W fun e W2 => e = .returned (.int .i64 (withC m n)) ∧ Did w W W2 g room tmo (setM m n (fun p => { p with f3 := x })) bs :=
  set_any t (fun ps tab k k1 k2 b p hp _ => tab.SetWants_yes k k1 k2 hp x) (fun ps tab hn => tab.SetWants_none n hn x) (fun _ => rfl) (fun p hp => hp) (fun p hp => hp)
theorem PT.SetOpen_any (t : PT w W g room tmo m bs) (n : Int) (x : Bool) : Calls Try.prog 31 #[.pointer (some ⟨g, 0, none⟩), .int .i64 n, .bool x] W fun e W2 => e = .returned (.int .i64 (withC m n)) ∧ Did w W W2 g room tmo (setM m n (fun p => { p with f4 := x })) bs :=
  set_any t (fun ps tab k k1 k2 b p hp _ => tab.SetOpen_yes k k1 k2 hp x) (fun ps tab hn => tab.SetOpen_none n hn x) (fun _ => rfl) (fun p hp => hp) (fun p hp => hp)
theorem PT.SetOpens_any (t : PT w W g room tmo m bs) (n : Int) (x : Bool) : Calls Try.prog 32 #[.pointer (some ⟨g, 0, none⟩), .int .i64 n, .bool x] W fun e W2 => e = .returned (.int .i64 (withC m n)) ∧ Did w W W2 g room tmo (setM m n (fun p => { p with f5 := x })) bs :=
  set_any t (fun ps tab k k1 k2 b p hp _ => tab.SetOpens_yes k k1 k2 hp x) (fun ps tab hn => tab.SetOpens_none n hn x) (fun _ => rfl) (fun p hp => hp) (fun p hp => hp)
def leaveM (m : PM) (n : Int) : PM := match atM m n with
  | some _ => m.set n.toNat none
  | none => m
theorem PT.Leave_any (t : PT w W g room tmo m bs) (n : Int) : Calls Try.prog 27 #[.pointer (some ⟨g, 0, none⟩), .int .i64 n] W fun e W2 => e = .returned (.int .i64 (withC m n)) ∧ Did w W W2 g room tmo (leaveM m n) bs := by
  obtain ⟨⟨ps, tab, hm⟩, inv⟩ := t
  match hx : atM m n with
  | none =>
    have e1 : withC m n = 4 := by unfold withC; rw [hx]
    have e2 : leaveM m n = m := by unfold leaveM; rw [hx]
    rw [e1, e2]
    refine (tab.Leave_none n (atM_not hm hx)).mono ?_
    rintro e W2 ⟨rfl, a⟩
    exact ⟨rfl, a.did tab hm inv⟩
  | some p =>
    have e1 : withC m n = 0 := by unfold withC; rw [hx]
    have e2 : leaveM m n = m.set n.toNat none := by unfold leaveM; rw [hx]
    rw [e1, e2]
    obtain ⟨k, rfl, k1, k2, hk⟩ := atM_some hx
    rw [Int.toNat_natCast]
    obtain ⟨b, hb⟩ : ∃ b, ps[k]? = some (some (b, p)) := by
      subst hm
      exact absP_some hk
    refine (tab.Leave_yes k k1 k2 hb).mono ?_
    rintro e W2 ⟨rfl, a⟩
    exact ⟨rfl, a.did tab (by rw [absP_none, hm]) (inv.drop k)⟩
def peerB (n : Int) : Bool := decide (1 ≤ n ∧ n ≤ 15)
theorem PT.Ban_any (t : PT w W g room tmo m bs) (n : Int) : Calls Try.prog 28 #[.pointer (some ⟨g, 0, none⟩), .int .i64 n] W fun e W2 => e = .returned (.int .i64 (if peerB n = true then 0 else 1)) ∧ Did w W W2 g room tmo (if peerB n = true then m.set n.toNat none else m) (if peerB n = true then bs.set n.toNat true else bs) := by
  obtain ⟨⟨ps, tab, hm⟩, inv⟩ := t
  by_cases hx : peerB n = true
  · rw [if_pos hx, if_pos hx, if_pos hx]
    have hx2 : 1 ≤ n ∧ n ≤ 15 := of_decide_eq_true hx
    obtain ⟨k, rfl⟩ := Int.eq_ofNat_of_zero_le (show 0 ≤ n by omega)
    rw [Int.toNat_natCast]
    refine (tab.Ban_yes k (by omega) (by omega)).mono ?_
    rintro e W2 ⟨rfl, a⟩
    exact ⟨rfl, a.did tab (by rw [absP_none, hm]) (inv.banned (by omega))⟩
  · rw [if_neg hx, if_neg hx, if_neg hx]
    refine (tab.Ban_bad n (fun h => hx (decide_eq_true h))).mono ?_
    rintro e W2 ⟨rfl, a⟩
    exact ⟨rfl, a.did tab hm inv⟩
theorem PT.Banned_any (t : PT w W g room tmo m bs) (n : Int) : Calls Try.prog 23 #[.pointer (some ⟨g, 0, none⟩), .int .i64 n] W fun e W2 => e = .returned (.bool (peerB n && bs.getD n.toNat false)) ∧ Below W.heap.size W W2 := by
  obtain ⟨⟨ps, tab, hm⟩, inv⟩ := t
  by_cases hx : peerB n = true
  · rw [hx, Bool.true_and]
    have hx2 : 1 ≤ n ∧ n ≤ 15 := of_decide_eq_true hx
    obtain ⟨k, rfl⟩ := Int.eq_ofNat_of_zero_le (show 0 ≤ n by omega)
    exact tab.Banned_yes k (by omega) (by omega)
  · rw [show peerB n = false by simpa using hx, Bool.false_and]
    exact tab.Banned_no n (fun h => hx (decide_eq_true h))
theorem PT.Get_any (t : PT w W g room tmo m bs) (n : Int) : Calls Try.prog 17 #[.pointer (some ⟨g, 0, none⟩), .int .i64 n] W fun e W2 => e = .returned (.tuple #[.agg (peerC ((atM m n).getD z33)).toArray, .bool (atM m n).isSome]) ∧ Below W.heap.size W W2 := by
  obtain ⟨⟨ps, tab, hm⟩, inv⟩ := t
  match hx : atM m n with
  | none => exact tab.Get_none n (atM_not hm hx)
  | some p =>
    obtain ⟨k, rfl, k1, k2, hk⟩ := atM_some hx
    obtain ⟨b, hb⟩ : ∃ b, ps[k]? = some (some (b, p)) := by
      subst hm
      exact absP_some hk
    exact tab.Get_yes k k1 k2 hb
theorem PT.List_any (t : PT w W g room tmo m bs) : Calls Try.prog 21 #[.pointer (some ⟨g, 0, none⟩)] W fun e W2 => ∃ v, e = .returned v ∧ Kd.R k33 33 W2 W.heap.size (fun _ => True) v (m.filterMap id) ∧ Below W.heap.size W W2 := by
  obtain ⟨⟨ps, tab, hm⟩, inv⟩ := t
  have := tab.List_
  rw [absP_there, hm] at this
  exact this
theorem PT.Len_any (t : PT w W g room tmo m bs) : Calls Try.prog 22 #[.pointer (some ⟨g, 0, none⟩)] W fun e W2 => e = .returned (.int .i64 ((m.filterMap id).length : Nat)) ∧ Below W.heap.size W W2 := by
  obtain ⟨⟨ps, tab, hm⟩, inv⟩ := t
  have := tab.Len_
  rw [absP_there, hm] at this
  exact this
theorem PT.Roll_any (t : PT w W g room tmo m bs) : Calls Try.prog 16 #[.pointer (some ⟨g, 0, none⟩)] W fun e W2 => e = .returned (.tuple #[]) ∧ Did w W W2 g room tmo (m.map (Option.map roll1)) bs := by
  obtain ⟨⟨ps, tab, hm⟩, inv⟩ := t
  refine tab.Roll_.mono ?_
  rintro e W2 ⟨rfl, a⟩
  refine ⟨rfl, a.did tab ?_ ⟨by rw [List.length_map]; exact inv.len, inv.lb, fun i p hp => ?_, fun i hb => ?_⟩⟩
  · subst hm
    unfold absP
    rw [List.map_map, List.map_map]
    apply List.map_congr_left
    intro x _
    cases x <;> rfl
  · rw [List.getElem?_map] at hp
    match hx : m[i]? with
    | none => rw [hx] at hp; cases hp
    | some none => rw [hx] at hp; cases hp
    | some (some q) =>
      rw [hx] at hp
      simp only [Option.map_some, Option.some.injEq] at hp
      subst hp
      have := inv.node i q hx
      exact ⟨this.1, this.2.1, this.2.2.1, by simp [roll1]⟩
  · rw [List.getElem?_map, inv.ban i hb]
    rfl
def expM (now tmo : Int) (x : Option Pr) : Option Pr := match x with
  | some p => if lateB now tmo p = true then none else some p
  | none => none
def goneM (now tmo : Int) (m : PM) : Nat → List Int
  | 0 => []
  | i + 1 => goneM now tmo m i ++ (match m[i]? with
    | some (some p) => if lateB now tmo p = true then [(i : Int)] else []
    | _ => [])
theorem goneM_eq (ps : Slots) : ∀ i, goneI now tmo ps i = goneM now tmo (absP ps) i
  | 0 => rfl
  | i + 1 => by
    unfold goneI goneM
    rw [goneM_eq ps i]
    congr 1
    unfold absP
    rw [List.getElem?_map]
    match ps[i]? with
    | none => rfl
    | some none => rfl
    | some (some (b, q)) => rfl
theorem expM_inv (hi : InvM m bs) : InvM (m.map (expM now tmo)) bs := by
  refine ⟨by rw [List.length_map]; exact hi.len, hi.lb, fun i p hp => ?_, fun i hb => ?_⟩
  · rw [List.getElem?_map] at hp
    match hx : m[i]? with
    | none => rw [hx] at hp; cases hp
    | some none => rw [hx] at hp; cases hp
    | some (some q) =>
      rw [hx] at hp
      simp only [Option.map_some, Option.some.injEq, expM] at hp
      split at hp
      · cases hp
      · cases hp
        exact hi.node i _ hx
  · rw [List.getElem?_map, hi.ban i hb]
    rfl
theorem PT.Expire_any (t : PT w W g room tmo m bs) (now : Int) : Calls Try.prog 18 #[.pointer (some ⟨g, 0, none⟩), .int .i64 now] W fun e W2 => ∃ v, e = .returned v ∧ Kd.R (Kd.int .i64) 3 W2 W.heap.size (fun k => k ≠ g) v (if tickB now = true then goneM now tmo m 16 else []) ∧ Did w W W2 g room tmo (if tickB now = true then m.map (expM now tmo) else m) bs := by
  obtain ⟨⟨ps, tab, hm⟩, inv⟩ := t
  by_cases hx : tickB now = true
  · rw [if_pos hx, if_pos hx]
    refine (tab.Expire_yes (timed_of inv hm) (of_decide_eq_true hx)).mono ?_
    rintro e W2 ⟨v, rfl, hr, a⟩
    refine ⟨v, rfl, by rw [← hm, ← goneM_eq]; exact hr, a.did tab ?_ (expM_inv inv)⟩
    subst hm
    unfold absP
    rw [List.map_map, List.map_map]
    apply List.map_congr_left
    intro x _
    match x with
    | none => rfl
    | some (b, q) =>
      simp only [Function.comp_apply, expO, Option.map_some, expM]
      split <;> rfl
  · rw [if_neg hx, if_neg hx]
    refine (tab.Expire_bad (fun h => hx (decide_eq_true h))).mono ?_
    rintro e W2 ⟨rfl, a⟩
    exact ⟨_, rfl, Kd.R_nil _ _ _ _ _, a.did tab hm inv⟩
def placeB (x y : Int) : Bool := decide ((-1048576 ≤ x ∧ x ≤ 1048576) ∧ (-1048576 ≤ y ∧ y ≤ 1048576))
def meetC (room : Int) (m : PM) (bs : List Bool) (n x y now : Int) : Int :=
  if peerB n = true ∧ placeB x y = true ∧ tickB now = true then (if bs.getD n.toNat false = true then 10 else if m.getD n.toNat none ≠ none then 5 else if room ≤ ((m.filterMap id).length : Int) then 6 else 0) else 1
def meetM (room : Int) (m : PM) (bs : List Bool) (n x y now : Int) : PM := if meetC room m bs n x y now = 0 then m.set n.toNat (some (met n x y now)) else m
theorem PT.Meet_any (t : PT w W g room tmo m bs) (n x y now : Int) : Calls Try.prog 14 #[.pointer (some ⟨g, 0, none⟩), .int .i64 n, .agg #[.int .i64 x, .int .i64 y], .int .i64 now] W fun e W2 => e = .returned (.int .i64 (meetC room m bs n x y now)) ∧ Did w W W2 g room tmo (meetM room m bs n x y now) bs := by
  obtain ⟨⟨ps, tab, hm⟩, inv⟩ := t
  have stay : ∀ c : Int, c ≠ 0 → meetC room m bs n x y now = c → (Calls Try.prog 14 #[.pointer (some ⟨g, 0, none⟩), .int .i64 n, .agg #[.int .i64 x, .int .i64 y], .int .i64 now] W fun e W2 => e = .returned (.int .i64 c) ∧ Acted w W W2 g room tmo ps ps bs) →
      Calls Try.prog 14 #[.pointer (some ⟨g, 0, none⟩), .int .i64 n, .agg #[.int .i64 x, .int .i64 y], .int .i64 now] W fun e W2 => e = .returned (.int .i64 (meetC room m bs n x y now)) ∧ Did w W W2 g room tmo (meetM room m bs n x y now) bs := by
    intro c hc0 hc h
    have : meetM room m bs n x y now = m := by
      unfold meetM
      rw [hc, if_neg hc0]
    rw [this, hc]
    refine h.mono ?_
    rintro e W2 ⟨rfl, a⟩
    exact ⟨rfl, a.did tab hm inv⟩
  by_cases hp : peerB n = true
  · have hp2 : 1 ≤ n ∧ n ≤ 15 := of_decide_eq_true hp
    obtain ⟨k, rfl⟩ := Int.eq_ofNat_of_zero_le (show 0 ≤ n by omega)
    have k1 : 1 ≤ k := by omega
    have k2 : k ≤ 15 := by omega
    by_cases hc : placeB x y = true
    · have hc2 : (-1048576 ≤ x ∧ x ≤ 1048576) ∧ (-1048576 ≤ y ∧ y ≤ 1048576) := of_decide_eq_true hc
      by_cases ht : tickB now = true
      · have ht2 : 0 ≤ now ∧ now ≤ 1099511627776 := of_decide_eq_true ht
        by_cases hb : bs.getD k false = true
        · refine stay 10 (by decide) ?_ (tab.Meet_ban k k1 k2 x y now hc2 ht2 hb)
          unfold meetC
          rw [if_pos ⟨hp, hc, ht⟩, Int.toNat_natCast, if_pos hb]
        · have hb2 : bs.getD k false = false := by simpa using hb
          match hx : m.getD k none with
          | some p =>
            obtain ⟨b, hpb⟩ : ∃ b, ps[k]? = some (some (b, p)) := by
              subst hm
              refine absP_some ?_
              rw [List.getD_eq_getElem?_getD] at hx
              match hy : (absP ps)[k]? with
              | none => rw [hy] at hx; cases hx
              | some none => rw [hy] at hx; cases hx
              | some (some q) => rw [hy] at hx; simp only [Option.getD_some, Option.some.injEq] at hx; rw [hx]
            refine stay 5 (by decide) ?_ (tab.Meet_there k k1 k2 x y now hc2 ht2 hb2 hpb)
            unfold meetC
            rw [if_pos ⟨hp, hc, ht⟩, Int.toNat_natCast, if_neg hb, hx, if_pos (by simp)]
          | none =>
            have hpn : ps.getD k none = none := by
              subst hm
              exact absP_no hx
            have hl : (there ps).length = (m.filterMap id).length := by rw [absP_there, hm]
            by_cases hr : room ≤ ((m.filterMap id).length : Int)
            · refine stay 6 (by decide) ?_ (tab.Meet_full k k1 k2 x y now hc2 ht2 hb2 hpn (by rw [hl]; exact hr))
              unfold meetC
              rw [if_pos ⟨hp, hc, ht⟩, Int.toNat_natCast, if_neg hb, hx, if_neg (by simp), if_pos hr]
            · have hc0 : meetC room m bs k x y now = 0 := by
                unfold meetC
                rw [if_pos ⟨hp, hc, ht⟩, Int.toNat_natCast, if_neg hb, hx, if_neg (by simp), if_neg hr]
              have hm0 : meetM room m bs k x y now = m.set k (some (met k x y now)) := by
                unfold meetM
                rw [if_pos hc0, Int.toNat_natCast]
              rw [hc0, hm0]
              refine (tab.Meet_yes k k1 k2 x y now hc2 ht2 hb2 hpn (by rw [hl]; omega)).mono ?_
              rintro e W2 ⟨rfl, b, a⟩
              exact ⟨rfl, a.did tab (by rw [absP_set, hm]) (inv.put k1 ⟨rfl, ht2, by simp [met, z33]⟩ hb2)⟩
      · refine stay 1 (by decide) ?_ (tab.Meet_now k k1 k2 x y now hc2 (fun h => ht (decide_eq_true h)))
        unfold meetC
        exact if_neg (fun h => ht h.2.2)
    · refine stay 1 (by decide) ?_ (tab.Meet_place k k1 k2 x y now (fun h => hc (decide_eq_true h)))
      unfold meetC
      exact if_neg (fun h => hc h.2.1)
  · refine stay 1 (by decide) ?_ (tab.Meet_node n (fun h => hp (decide_eq_true h)) x y now)
    unfold meetC
    exact if_neg (fun h => hp h.1)
end
end Go.Proofs.Ytpejjpecdkbleaa.Print
