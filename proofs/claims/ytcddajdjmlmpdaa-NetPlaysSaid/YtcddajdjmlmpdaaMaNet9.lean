/- net: the net and the document's beside it: what each step leaves. -/
import Derived.Test.YtcddajdjmlmpdaaPrK
import Derived.Test.YtcddajdjmlmpdaaMaNet1
import Derived.Test.YtcddajdjmlmpdaaMaNet2
import Derived.Test.YtcddajdjmlmpdaaMaNet3
import Derived.Test.YtcddajdjmlmpdaaMaNet4
import Derived.Test.YtcddajdjmlmpdaaMaNet5
import Derived.Test.YtcddajdjmlmpdaaMaNet6
import Derived.Test.YtcddajdjmlmpdaaMaNet7
import Derived.Test.YtcddajdjmlmpdaaMaNet8
import Derived.Test.YtcddajdjmlmpdaaMaNetCounts
import Derived.Test.YtcddajdjmlmpdaaPr36
import Derived.Test.YtcddajdjmlmpdaaPrE59
import Derived.Test.YtcddajdjmlmpdaaMaNet8
import Derived.Test.YtcddajdjmlmpdaaMaNetCounts
import Derived.Test.YtcddajdjmlmpdaaPureW
import Derived.IntWalk
import Derived.BigQuiet
import Derived.Deep.QuietTactic
import Derived.Deep.RegionLaw
import Derived.Deep.RegionHeld3
import Derived.Deep.DeepCutAuto
import Derived.RegionTactic
import Derived.StillTailTactics
import Derived.Outline
import Derived.Laws.CopyOwn
namespace Go.Proofs.Ytcddajdjmlmpdaa.Print
open Go.RowKit Go.Proofs.YtcddajdjmlmpdaaW.PrintWords Go.Proofs.YtcddajdjmlmpdaaW.PrintLast Go.Proofs.YtcddajdjmlmpdaaW.PrintMore
attribute [local go_sem high] eqA59
set_option linter.unusedVariables false
set_option linter.unusedSimpArgs false

/-- The net, and the document's beside it: its cells at block h, its mails in a row. -/
structure PI (w W : World) (g b h i : Nat) (room last : Int) (m : NMs) (V : Value) : Prop where
  net : NetAt w W g b room last m
  ref : W.heap[h]? = some (.cells #[.int .i64 room, .int .i64 last, V] 55 (0, 0))
  row : RowM w W V m
  ge : w.heap.size ≤ h
  la : last ≤ (i : Int)
  ml : m.length ≤ i
section
variable {w W W2 : World} {g b h i : Nat} {room last last2 : Int} {V V2 : Value} {m m2 : NMs}
theorem PI.below (p : PI w W g b h i room last m V) (hb : Below W.heap.size W W2) : PI w W2 g b h i room last m V := ⟨p.net.below hb, blk_below p.ref hb, p.row.below hb, p.ge, p.la, p.ml⟩
theorem PI.next (p : PI w W g b h i room last m V) : PI w W g b h (i + 1) room last m V := ⟨p.net, p.ref, p.row, p.ge, by have := p.la; omega, by have := p.ml; omega⟩
theorem PI.lo (p : PI w W g b h i room last m V) (hi : i < 100) : 0 ≤ last ∧ last < 1000000000 := by
  have := p.net.lo
  have := p.la
  omega
theorem PI.len (p : PI w W g b h i room last m V) (hi : i < 100) : m.length < 1000000 := by
  have := p.ml
  omega
/-- The row of the document's mails is none of these blocks. -/
theorem RowM.keepB {c : Nat} {cells : Array Value} {t : Nat} (hr : RowM w W V m) (hc : W.heap[c]? = some (.cells cells t (0, 0))) (ht : t ≠ 59) (hk : KeepBut W W2 c none) : RowM w W2 V m := by
  refine Kd.R_mono (Kd.R_keep hr.own hk (fun k hk e => ?_)) (fun _ _ => trivial)
  rw [e] at hk
  exact pmail_not hc ht hk
theorem NetAt.keepB {c : Nat} {cells : Array Value} {t : Nat} (p : NetAt w W g b room last m) (hc : W.heap[c]? = some (.cells cells t (0, 0))) (ht : t ≠ 110) (hk : KeepBut W W2 c none) (hb : Below w.heap.size w W2) : NetAt w W2 g b room last m := by
  have h1 : g ≠ c := fun e => by
    have := p.blk
    rw [e, hc] at this
    injection this with this
    injection this with _ this
    exact ht this
  have h2 : b ≠ c := fun e => by
    obtain ⟨es, clock, hm⟩ := p.map
    have := hm.blk
    rw [e, hc] at this
    cases this
  exact ⟨hk.blk p.blk h1 (by simp), p.map.keep hk h2, p.ge, p.bge, hb, p.rise, p.top, p.lo⟩
theorem nthN_in (p : NetAt w W g b room last m) (hl : last < 1000000000) (k : Int) : 0 ≤ nthN m k ∧ nthN m k ≤ 1000000000 := by
  have h0 := p.lo
  unfold nthN
  split
  · omega
  · rename_i hn
    have hl2 : (k % (m.length : Int)).toNat < (m.map (·.1)).length := by
      rw [List.length_map]
      have := Int.emod_lt_of_pos k (b := (m.length : Int)) (by omega)
      have := Int.emod_nonneg k (b := (m.length : Int)) (by omega)
      omega
    have hrd := Go.Proofs.Ytcddajdjmlmpdaa.Pure.rd_lt (m.map (·.1)) (k % (m.length : Int)).toNat hl2
    rw [Int.toNat_of_nonneg (Int.emod_nonneg k (by omega))] at hrd
    rw [hrd, List.getElem_map]
    have := p.top _ (List.getElem_mem (l := m) (n := (k % (m.length : Int)).toNat) (by rw [List.length_map] at hl2; exact hl2))
    omega
theorem PI.keepB {c : Nat} {cells : Array Value} {t : Nat} (p : PI w W g b h i room last m V) (hc : W.heap[c]? = some (.cells cells t (0, 0))) (ht : t ≠ 59 ∧ t ≠ 110 ∧ t ≠ 55) (hk : KeepBut W W2 c none) (hb : Below w.heap.size w W2) : PI w W2 g b h i room last m V :=
  ⟨p.net.keepB hc ht.2.1 hk hb, hk.blk p.ref (fun e => by
    have := p.ref
    rw [e, hc] at this
    injection this with this
    injection this with _ this
    exact ht.2.2 this) (by simp), p.row.keepB hc ht.1 hk, p.ge, p.la, p.ml⟩
theorem RowM.keepO {c : Nat} (hr : RowM w W V m) (hne : ¬ some c = V.ownBlock) (hk : KeepBut W W2 c none) : RowM w W2 V m :=
  Kd.R_mono (Kd.R_keep hr.tight hk (fun k hk e => hne (by rw [← e]; exact hk))) (fun _ _ => trivial)
theorem PI.keepT {c : Nat} {cells : Array Value} (p : PI w W g b h i room last m V) (hc : W.heap[c]? = some (.cells cells 59 (0, 0))) (ho : ¬ some c = V.ownBlock) (hk : KeepBut W W2 c none) (hb : Below w.heap.size w W2) : PI w W2 g b h i room last m V :=
  ⟨p.net.keepB hc (by decide) hk hb, hk.blk p.ref (fun e => by
    have := p.ref
    rw [e, hc] at this
    injection this with this
    injection this with _ this
    exact absurd this (by decide)) (by simp), p.row.keepO ho hk, p.ge, p.la, p.ml⟩
/-- The law's calls, in the document's words. -/
theorem NetAt.Send_s (p : NetAt w W g b room last m) (hl : last < 1000000000) (x : Gr) :
    Calls Try.prog 20 #[.pointer (some ⟨g, 0, none⟩), .agg #[.int .i64 x.f0, .int .i64 x.f1, .string x.f2]] W fun e W2 => e = .returned (.tuple #[.int .i64 (sendC room last m x).1, .int .i64 (sendC room last m x).2]) ∧ NetDid w W W2 g b room (sendL room last m x) (sendM room last m x) := by
  have := p.Send_any hl x
  unfold sendC sendL sendM
  by_cases hg : goodG x
  · rw [if_pos hg, if_pos hg, if_pos hg, if_pos hg] at this
    rw [if_pos hg, if_pos hg, if_pos hg]
    exact this
  · rw [if_neg hg, if_neg hg, if_neg hg, if_neg hg] at this
    rw [if_neg hg, if_neg hg, if_neg hg]
    exact this
theorem NetAt.Twice_s (p : NetAt w W g b room last m) (hl : last < 1000000000) (id : Int) (hw : (Lit.int .i64 id).wf = true) :
    Calls Try.prog 22 #[.pointer (some ⟨g, 0, none⟩), .int .i64 id] W fun e W2 => e = .returned (.tuple #[.int .i64 (twiceC room last m id).1, .int .i64 (twiceC room last m id).2]) ∧ NetDid w W W2 g b room (twiceL room last m id) (twiceM room last m id) := by
  have := p.Twice_any hl id hw
  unfold twiceC twiceL twiceM
  match hx : atN m id with
  | none =>
    rw [hx] at this
    exact this
  | some x =>
    rw [hx] at this
    exact this
theorem putLM (i : Nat) (hla : last ≤ (i : Int)) (hml : m.length ≤ i) (x : Gr) : putL room last m ≤ ((i + 1 : Nat) : Int) ∧ (putM room last m x).length ≤ i + 1 := by
  unfold putL putM
  split
  · exact ⟨by omega, by omega⟩
  · exact ⟨by omega, by rw [List.length_append]; simp; omega⟩
theorem sendLM (i : Nat) (hla : last ≤ (i : Int)) (hml : m.length ≤ i) (x : Gr) : sendL room last m x ≤ ((i + 1 : Nat) : Int) ∧ (sendM room last m x).length ≤ i + 1 := by
  unfold sendL sendM
  split
  · exact putLM i hla hml x
  · exact ⟨by omega, by omega⟩
theorem twiceLM (i : Nat) (hla : last ≤ (i : Int)) (hml : m.length ≤ i) (id : Int) : twiceL room last m id ≤ ((i + 1 : Nat) : Int) ∧ (twiceM room last m id).length ≤ i + 1 := by
  unfold twiceL twiceM
  match atN m id with
  | none => exact ⟨by show last ≤ _; omega, by show m.length ≤ _; omega⟩
  | some x => exact putLM i hla hml x
/-- Behind a call of the document's: the rows are new, the rest stands. -/
structure RD (w W : World) (g b h xb : Nat) (room last : Int) (m m2 : NMs) (V V2 : Value) (X : Array Value) : Prop where
  net : NetAt w W g b room last m
  ref : W.heap[h]? = some (.cells #[.int .i64 room, .int .i64 last, V] 55 (0, 0))
  x : W.heap[xb]? = some (.cells X 50 (0, 0))
  row : RowM w W V2 m2
theorem PI.rd {W3 : World} {xb : Nat} {X : Array Value} (p : PI w W g b h i room last m V) (hx : W.heap[xb]? = some (.cells X 50 (0, 0))) (hb : Below W.heap.size W W2) (hr : RowM w W3 V2 m2) (hk : Kept W2 W3 (PMail W2)) (hb3 : Below w.heap.size w W3) : RD w W3 g b h xb room last m m2 V V2 X :=
  ⟨(p.net.below hb).keptP hk hb3, blk_kept (blk_below p.ref hb) hk (pmail_not (blk_below p.ref hb) (by decide)), blk_kept (blk_below hx hb) hk (pmail_not (blk_below hx hb) (by decide)), hr⟩
theorem PI.rsend {xb : Nat} {X : Array Value} {A : Option Addr} {c : Nat} (p : PI w W g b h i room last m (.slice A m.length c)) (hi : i < 100) (hx : W.heap[xb]? = some (.cells X 50 (0, 0))) (hb : Below W.heap.size W W2) (x : Gr) :
    Calls Try.prog 29 #[.agg #[.int .i64 room, .int .i64 last, .slice A m.length c], .agg #[.int .i64 0, .int .i64 x.f0, .int .i64 x.f1, .string x.f2]] W2 fun e W3 => ∃ A2 n2, e = .returned (.tuple #[.agg #[.int .i64 room, .int .i64 (sendL room last m x), .slice A2 (sendM room last m x).length n2], .int .i64 (sendC room last m x).1, .int .i64 (sendC room last m x).2]) ∧ RD w W3 g b h xb room last m (sendM room last m x) (.slice A m.length c) (.slice A2 (sendM room last m x).length n2) X ∧ Kept W2 W3 (PMail W2) := by
  refine (refSend (p.row.below hb) (below_step p.net.bel hb) (p.len hi) room last (p.lo hi) x).mono ?_
  rintro e W3 ⟨V2, rfl, hr, hb3, hk⟩
  obtain ⟨A2, n2, rfl⟩ := Kd.R_slice hr
  rw [refN_len] at hr ⊢
  exact ⟨A2, n2, rfl, p.rd hx hb hr hk hb3, hk⟩
theorem PI.rlose {xb : Nat} {X : Array Value} {A : Option Addr} {c : Nat} (p : PI w W g b h i room last m (.slice A m.length c)) (hi : i < 100) (hx : W.heap[xb]? = some (.cells X 50 (0, 0))) (hb : Below W.heap.size W W2) (id : Int) :
    Calls Try.prog 32 #[.agg #[.int .i64 room, .int .i64 last, .slice A m.length c], .int .i64 id] W2 fun e W3 => ∃ A2 n2, e = .returned (.tuple #[.agg #[.int .i64 room, .int .i64 last, .slice A2 (dropN m id).length n2], .int .i64 (findC (atN m id))]) ∧ RD w W3 g b h xb room last m (dropN m id) (.slice A m.length c) (.slice A2 (dropN m id).length n2) X ∧ Kept W2 W3 (fun k => some k = (Value.slice A m.length c).ownBlock) := by
  refine (refLose2 (p.row.below hb) (below_step p.net.bel hb) (p.len hi) p.net.rise room last id).mono ?_
  rintro e W3 ⟨V2, rfl, hr, hb3, hk⟩
  obtain ⟨A2, n2, rfl⟩ := Kd.R_slice hr
  rw [refN_len] at hr ⊢
  exact ⟨A2, n2, rfl, p.rd hx hb hr ((p.row.below hb).keptO hk) hb3, hk⟩
theorem PI.rtwice {xb : Nat} {X : Array Value} {A : Option Addr} {c : Nat} (p : PI w W g b h i room last m (.slice A m.length c)) (hi : i < 100) (hx : W.heap[xb]? = some (.cells X 50 (0, 0))) (hb : Below W.heap.size W W2) (id : Int) :
    Calls Try.prog 33 #[.agg #[.int .i64 room, .int .i64 last, .slice A m.length c], .int .i64 id] W2 fun e W3 => ∃ A2 n2, e = .returned (.tuple #[.agg #[.int .i64 room, .int .i64 (twiceL room last m id), .slice A2 (twiceM room last m id).length n2], .int .i64 (twiceC room last m id).1, .int .i64 (twiceC room last m id).2]) ∧ RD w W3 g b h xb room last m (twiceM room last m id) (.slice A m.length c) (.slice A2 (twiceM room last m id).length n2) X := by
  refine (refTwice (p.row.below hb) (below_step p.net.bel hb) (p.len hi) p.net.rise room last id (p.lo hi)).mono ?_
  rintro e W3 ⟨V2, rfl, hr, hb3, hk⟩
  obtain ⟨A2, n2, rfl⟩ := Kd.R_slice hr
  rw [refN_len] at hr ⊢
  exact ⟨A2, n2, rfl, p.rd hx hb hr hk hb3⟩
/-- The document's net is stored: both blocks once more. -/
structure RS (w W : World) (g b h xb : Nat) (room last last2 : Int) (m m2 : NMs) (V2 : Value) (X : Array Value) : Prop where
  net : NetAt w W g b room last m
  ref : W.heap[h]? = some (.cells #[.int .i64 room, .int .i64 last2, V2] 55 (0, 0))
  x : W.heap[xb]? = some (.cells X 50 (0, 0))
  row : RowM w W V2 m2
theorem RD.below {xb : Nat} {X : Array Value} (r : RD w W g b h xb room last m m2 V V2 X) (hb : Below W.heap.size W W2) : RD w W2 g b h xb room last m m2 V V2 X := ⟨r.net.below hb, blk_below r.ref hb, blk_below r.x hb, r.row.below hb⟩
theorem RD.setAll {xb z : Nat} {X : Array Value} {u0 u1 u2 : Value} (r : RD w W g b h xb room last m m2 V V2 X) (hz : W.heap[z]? = some (.cells #[u0, u1, u2] 55 (0, 0))) (hne : h ≠ z) (hge : w.heap.size ≤ z) (v0 v1 v2 : Value) : RD w (((W.setCell ⟨z, 0, none⟩ v0).setCell ⟨z, 1, none⟩ v1).setCell ⟨z, 2, none⟩ v2) g b h xb room last m m2 V V2 X := by
  have hk := (set3 hz v0 v1 v2).2
  refine ⟨r.net.keepB hz (by decide) hk (((r.net.bel.setCell hge _).setCell hge _).setCell hge _), hk.blk r.ref hne (by simp), hk.blk r.x (fun e => ?_) (by simp), r.row.keepB hz (by decide) hk⟩
  have := r.x
  rw [e, hz] at this
  injection this with this
  injection this with _ this
  exact absurd this (by decide)
theorem RD.stored {xb : Nat} {X : Array Value} (r : RD w W g b h xb room last m m2 V V2 X) (hge : w.heap.size ≤ h) (hne : xb ≠ h) (h1 : W2.heap[h]? = some (.cells #[.int .i64 room, .int .i64 last2, V2] 55 (0, 0))) (hb : Below h W W2) (hk : KeepBut W W2 h none) : RS w W2 g b h xb room last last2 m m2 V2 X :=
  ⟨r.net.keepB r.ref (by decide) hk (below_weaken r.net.bel hge hb), h1, hk.blk r.x hne (by simp), r.row.keepB r.ref (by decide) hk⟩
theorem RS.below {xb : Nat} {X : Array Value} (r : RS w W g b h xb room last last2 m m2 V2 X) (hb : Below W.heap.size W W2) : RS w W2 g b h xb room last last2 m m2 V2 X := ⟨r.net.below hb, blk_below r.ref hb, blk_below r.x hb, r.row.below hb⟩
theorem RS.done {xb i : Nat} {X : Array Value} (r : RS w W g b h xb room last last2 m m2 V2 X) (hge : w.heap.size ≤ h) (d : NetDid w W W2 g b room last2 m2) (h1 : last2 ≤ ((i + 1 : Nat) : Int)) (h2 : m2.length ≤ i + 1) : PI w W2 g b h (i + 1) room last2 m2 V2 :=
  ⟨d.net, blk_kept r.ref d.kept (footN_not r.ref (by decide)), rows_footN r.row d.kept (by decide), hge, h1, h2⟩
theorem dropN_le (m : NMs) (id : Int) : (dropN m id).length ≤ m.length := List.length_filter_le _ _
/-- What is done to both. -/
theorem PI.done {W1 W3 : World} (p : PI w W g b h i room last m V) (hr : W2.heap[h]? = some (.cells #[.int .i64 room, .int .i64 last2, V2] 55 (0, 0))) (hrow : RowM w W2 V2 m2) (d : NetDid w W2 W3 g b room last2 m2) (h1 : last2 ≤ ((i + 1 : Nat) : Int)) (h2 : m2.length ≤ i + 1) : PI w W3 g b h (i + 1) room last2 m2 V2 :=
  ⟨d.net, blk_kept hr d.kept (footN_not hr (by decide)), rows_footN hrow d.kept (by decide), p.ge, h1, h2⟩
theorem NetAt.List_c (p : NetAt w W g b room last m) (hm : m.length < 1000000) (hl : last < 1000000000) :
    Calls Try.prog 35 #[.pointer (some ⟨g, 0, none⟩)] W fun e W2 => ∃ A c, e = .returned (.slice A m.length c) ∧ Kd.C k115 W2 A m.length (mailsN m) ∧ Below W.heap.size W W2 := by
  refine (p.List_any hm hl).mono ?_
  rintro e W2 ⟨v, rfl, hr, hb⟩
  obtain ⟨A, c, rfl⟩ := Kd.R_slice hr
  have hc := (Kd.R_reads' hr).2.2
  rw [mailsN_len] at hc ⊢
  exact ⟨A, c, rfl, hc, hb⟩
theorem RowM.c {A : Option Addr} {n c : Nat} (r : RowM w W (.slice A n c) m) : Kd.C k59 W A m.length (refN m) := by
  have hc := (Kd.R_reads' r).2.2
  rw [refN_len] at hc
  exact hc
theorem NetAt.To_c (p : NetAt w W g b room last m) (hm : m.length < 1000000) (node : Int) :
    Calls Try.prog 37 #[.pointer (some ⟨g, 0, none⟩), .int .i64 node] W fun e W2 => ∃ A c, e = .returned (.slice A (idsN (fun x => x.f1 == node) m).length c) ∧ (Kd.C (Kd.int .i64) W2 A (idsN (fun x => x.f1 == node) m).length (idsN (fun x => x.f1 == node) m) ∧ (idsN (fun x => x.f1 == node) m).length ≤ c) ∧ Below W.heap.size W W2 := by
  refine (p.To_any hm node).mono ?_
  rintro e W2 ⟨v, rfl, hr, hb⟩
  obtain ⟨A, c, rfl⟩ := Kd.R_slice hr
  exact ⟨A, c, rfl, ⟨(Kd.R_reads' hr).2.2, (Kd.R_reads' hr).2.1⟩, hb⟩
theorem RowM.To_c (r : RowM w W V m) (hm : m.length < 1000000) (room last node : Int) :
    Calls Try.prog 38 #[.agg #[.int .i64 room, .int .i64 last, V], .int .i64 node] W fun e W2 => ∃ A c, e = .returned (.slice A (idsN (fun x => x.f1 == node) m).length c) ∧ (Kd.C (Kd.int .i64) W2 A (idsN (fun x => x.f1 == node) m).length (idsN (fun x => x.f1 == node) m) ∧ (idsN (fun x => x.f1 == node) m).length ≤ c) ∧ Below W.heap.size W W2 := by
  refine (refTo r hm room last node).mono ?_
  rintro e W2 ⟨v, rfl, hr, hb⟩
  obtain ⟨A, c, rfl⟩ := Kd.R_slice hr
  exact ⟨A, c, rfl, ⟨(Kd.R_reads' hr).2.2, (Kd.R_reads' hr).2.1⟩, hb⟩
theorem sameL_calls {A B : Option Addr} {c d : Nat} {l : List Int} (h1 : Kd.C (Kd.int .i64) W A l.length l ∧ l.length ≤ c) (h2 : Kd.C (Kd.int .i64) W B l.length l ∧ l.length ≤ d) (hl : l.length < 1000000) :
    Calls Try.prog 36 #[.slice A l.length c, .slice B l.length d] W fun e W2 => e = .returned (.bool true) ∧ Below W.heap.size W W2 := by
  obtain ⟨k, hk⟩ := (sameL_f l hl).rounds
  refine (mosaicref04_Same.calls k A c l B d l true W h1.1 h1.2 h2.1 h2.2 hk).mono ?_
  rintro e W2 ⟨rfl, hd⟩
  exact ⟨rfl, hd.below⟩
end
end Go.Proofs.Ytcddajdjmlmpdaa.Print
