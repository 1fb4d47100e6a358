/- net: calls of the document's functions beside a net. -/
import Derived.Test.YtcddajdjmlmpdaaPrK
import Derived.Test.YtcddajdjmlmpdaaMaNet1
import Derived.Test.YtcddajdjmlmpdaaMaNet2
import Derived.Test.YtcddajdjmlmpdaaMaNet3
import Derived.Test.YtcddajdjmlmpdaaMaNet4
import Derived.Test.YtcddajdjmlmpdaaMaNet6
import Derived.Test.YtcddajdjmlmpdaaPr28
import Derived.Test.YtcddajdjmlmpdaaPr29
import Derived.Test.YtcddajdjmlmpdaaPr31
import Derived.Test.YtcddajdjmlmpdaaPr32
import Derived.Test.YtcddajdjmlmpdaaPr38
import Derived.Test.YtcddajdjmlmpdaaPr64
import Derived.Test.YtcddajdjmlmpdaaMaNet6
import Derived.IntWalk
import Derived.BigQuiet
import Derived.Deep.QuietTactic
import Derived.Deep.RegionLaw
import Derived.Deep.RegionHeld3
import Derived.RegionTactic
import Derived.StillTailTactics
import Derived.Outline
import Derived.Laws.CopyOwn
namespace Go.Proofs.Ytcddajdjmlmpdaa.Print
open Go.RowKit Go.Proofs.YtcddajdjmlmpdaaW.PrintWords Go.Proofs.YtcddajdjmlmpdaaW.PrintLast Go.Proofs.YtcddajdjmlmpdaaW.PrintMore
set_option linter.unusedVariables false
set_option linter.unusedSimpArgs false

def PMail (W : World) (k : Nat) : Prop := ∃ cells, W.heap[k]? = some (.cells cells 59 (0, 0))
theorem pmail_not {W : World} {b t : Nat} {cells : Array Value} (h : W.heap[b]? = some (.cells cells t (0, 0))) (h1 : t ≠ 59) : ¬ PMail W b := by
  rintro ⟨c, hc⟩
  rw [h] at hc
  injection hc with hc
  injection hc with _ hc
  exact h1 hc
/-- The row of a net's mails, as the document has them. -/
abbrev RowM (w W : World) (V : Value) (m : NMs) : Prop := Kd.R k59 59 W w.heap.size (fun _ => True) V (refN m)
section
variable {w W W2 : World} {g b : Nat} {room last : Int} {m : NMs} {V : Value}
theorem RowM.own (h : RowM w W V m) : Kd.R k59 59 W w.heap.size (PMail W) V (refN m) :=
  Kd.R_mono (Kd.R_bound h) (fun k hk => by
    obtain ⟨_, _, _, q, hq, cells, hc⟩ := hk
    have h1 : q = 59 := by
      rcases List.mem_cons.1 hq with hq | hq
      · exact hq
      · exact absurd hq (by show ¬ (q ∈ ([] : List Nat)); simp)
    exact ⟨cells, h1 ▸ hc⟩)
theorem RowM.below (h : RowM w W V m) (hb : Below W.heap.size W W2) : RowM w W2 V m := Kd.R_below h hb
/-- A net stays where rows of mails are written. -/
theorem NetAt.keptP (h : NetAt w W g b room last m) (hk : Kept W W2 (PMail W)) (hb : Below w.heap.size w W2) : NetAt w W2 g b room last m := by
  have hg := hk.2 g (blk_lt h.blk) (pmail_not h.blk (by decide))
  have hm := hk.2 b h.map.lt (fun hp => by
    obtain ⟨cells, hc⟩ := hp
    obtain ⟨es, clock, hm⟩ := h.map
    rw [hm.blk] at hc
    cases hc)
  exact ⟨hg.trans h.blk, h.map.move hm, h.ge, h.bge, hb, h.rise, h.top, h.lo⟩
theorem refNth (h : RowM w W V m) (hl : m.length < 1000000) (room last i : Int) :
    Calls Try.prog 28 #[.agg #[.int .i64 room, .int .i64 last, V], .int .i64 i] W fun e W2 => e = .returned (.int .i64 (nthN m i)) ∧ Below W.heap.size W W2 := by
  obtain ⟨A, c, rfl⟩ := Kd.R_slice h
  exact mosaicref21_Net_Nth.calls room last A c (refN m) i _ W (Kd.R_reads' h).2.2 (Kd.R_reads' h).2.1 (nth_fR room last m i hl)
theorem refFind (h : RowM w W V m) (hl : m.length < 1000000) (room last i : Int) :
    Calls Try.prog 31 #[.agg #[.int .i64 room, .int .i64 last, V], .int .i64 i] W fun e W2 => e = .returned (.int .i64 (findR (refN m) i 0)) ∧ Below W.heap.size W W2 := by
  obtain ⟨A, c, rfl⟩ := Kd.R_slice h
  obtain ⟨k, hk⟩ := (find_fR room last (refN m) i (by rw [refN_len]; exact hl)).rounds
  exact mosaicref21_Net_Find.calls k room last A c (refN m) i _ W (Kd.R_reads' h).2.2 (Kd.R_reads' h).2.1 hk
theorem refTo (h : RowM w W V m) (hl : m.length < 1000000) (room last n : Int) :
    Calls Try.prog 38 #[.agg #[.int .i64 room, .int .i64 last, V], .int .i64 n] W fun e W2 => ∃ v, e = .returned v ∧ Kd.R (Kd.int .i64) 3 W2 W.heap.size (fun _ => True) v (idsN (fun x => x.f1 == n) m) ∧ Below W.heap.size W W2 := by
  obtain ⟨A, c, rfl⟩ := Kd.R_slice h
  obtain ⟨k, hk⟩ := (to_fR room last m n hl).rounds
  exact mosaicref21_Net_To.calls k room last A c (refN m) n _ W (Kd.R_reads' h).2.2 (Kd.R_reads' h).2.1 hk
theorem refSend (h : RowM w W V m) (hb : Below w.heap.size w W) (hl : m.length < 1000000) (room last : Int) (hla : 0 ≤ last ∧ last < 1000000000) (x : Gr) :
    Calls Try.prog 29 #[.agg #[.int .i64 room, .int .i64 last, V], .agg #[.int .i64 0, .int .i64 x.f0, .int .i64 x.f1, .string x.f2]] W fun e W2 => ∃ V2, e = .returned (.tuple #[.agg #[.int .i64 room, .int .i64 (sendL room last m x), V2], .int .i64 (sendC room last m x).1, .int .i64 (sendC room last m x).2]) ∧ RowM w W2 V2 (sendM room last m x) ∧ Below w.heap.size w W2 ∧ Kept W W2 (PMail W) := by
  obtain ⟨k, hk⟩ := (send_fR room last m x hl hla).rounds
  refine (mosaicref21_Net_Send.calls k room last (PMail W) V (refN m) 0 x.f0 x.f1 x.f2 _ _ _ _ _ w W hb h.own hk).mono ?_
  rintro e W2 ⟨V2, rfl, hr, hb2, hk2⟩
  exact ⟨V2, rfl, Kd.R_mono hr (fun _ _ => trivial), hb2, hk2⟩
theorem refPut (h : RowM w W V m) (hb : Below w.heap.size w W) (hl : m.length < 1000000) (room last a : Int) (hla : 0 ≤ last ∧ last < 1000000000) (x : Gr) :
    Calls Try.prog 64 #[.agg #[.int .i64 room, .int .i64 last, V], .agg #[.int .i64 a, .int .i64 x.f0, .int .i64 x.f1, .string x.f2]] W fun e W2 => ∃ V2, e = .returned (.tuple #[.agg #[.int .i64 room, .int .i64 (putL room last m), V2], .int .i64 (putC room last m).1, .int .i64 (putC room last m).2]) ∧ RowM w W2 V2 (putM room last m x) ∧ Below w.heap.size w W2 ∧ Kept W W2 (PMail W) := by
  obtain ⟨k, hk⟩ := (put_fR room last m a x hl hla).rounds
  refine (mosaicref21_Net_put.calls k room last (PMail W) V (refN m) a x.f0 x.f1 x.f2 _ _ _ _ _ w W hb h.own hk).mono ?_
  rintro e W2 ⟨V2, rfl, hr, hb2, hk2⟩
  exact ⟨V2, rfl, Kd.R_mono hr (fun _ _ => trivial), hb2, hk2⟩
theorem refLose (h : RowM w W V m) (hb : Below w.heap.size w W) (hl : m.length < 1000000) (hr : (m.map (·.1)).Pairwise (· < ·)) (room last id : Int) :
    Calls Try.prog 32 #[.agg #[.int .i64 room, .int .i64 last, V], .int .i64 id] W fun e W2 => ∃ V2, e = .returned (.tuple #[.agg #[.int .i64 room, .int .i64 last, V2], .int .i64 (findC (atN m id))]) ∧ RowM w W2 V2 (dropN m id) ∧ Below w.heap.size w W2 ∧ Kept W W2 (PMail W) := by
  obtain ⟨k, hk⟩ := (lose_fR room last m id hr hl).rounds
  refine (mosaicref21_Net_Lose.calls k room last (PMail W) V (refN m) id _ _ _ _ w W hb h.own hk).mono ?_
  rintro e W2 ⟨V2, rfl, hr2, hb2, hk2⟩
  exact ⟨V2, rfl, Kd.R_mono hr2 (fun _ _ => trivial), hb2, hk2⟩
theorem RowM.tight (h : RowM w W V m) : Kd.R k59 59 W w.heap.size (fun k => some k = V.ownBlock) V (refN m) := Kd.R_tight rfl h
theorem RowM.blkAt (h : RowM w W V m) {k : Nat} (hk : some k = V.ownBlock) : PMail W k ∧ k < W.heap.size := by
  have h1 := (Kd.R_bound h.own).1 k hk.symm
  exact ⟨h1.1, h1.2.2.1⟩
theorem RowM.keptO (h : RowM w W V m) (hk : Kept W W2 (fun k => some k = V.ownBlock)) : Kept W W2 (PMail W) := ⟨hk.1, fun i hi hn => hk.2 i hi (fun e => hn (h.blkAt e).1)⟩
/-- Lose, once more: the row's own block alone may be written. -/
theorem refLose2 (h : RowM w W V m) (hb : Below w.heap.size w W) (hl : m.length < 1000000) (hr : (m.map (·.1)).Pairwise (· < ·)) (room last id : Int) :
    Calls Try.prog 32 #[.agg #[.int .i64 room, .int .i64 last, V], .int .i64 id] W fun e W2 => ∃ V2, e = .returned (.tuple #[.agg #[.int .i64 room, .int .i64 last, V2], .int .i64 (findC (atN m id))]) ∧ RowM w W2 V2 (dropN m id) ∧ Below w.heap.size w W2 ∧ Kept W W2 (fun k => some k = V.ownBlock) := by
  obtain ⟨k, hk⟩ := (lose_fR room last m id hr hl).rounds
  refine (mosaicref21_Net_Lose.calls k room last (fun k => some k = V.ownBlock) V (refN m) id _ _ _ _ w W hb h.tight hk).mono ?_
  rintro e W2 ⟨V2, rfl, hr2, hb2, hk2⟩
  exact ⟨V2, rfl, Kd.R_mono hr2 (fun _ _ => trivial), hb2, hk2⟩
theorem set3 {b t : Nat} {u0 u1 u2 : Value} (h : W.heap[b]? = some (.cells #[u0, u1, u2] t (0, 0))) (v0 v1 v2 : Value) :
    (((W.setCell ⟨b, 0, none⟩ v0).setCell ⟨b, 1, none⟩ v1).setCell ⟨b, 2, none⟩ v2).heap[b]? = some (.cells #[v0, v1, v2] t (0, 0)) ∧ KeepBut W (((W.setCell ⟨b, 0, none⟩ v0).setCell ⟨b, 1, none⟩ v1).setCell ⟨b, 2, none⟩ v2) b none := by
  refine ⟨?_, KeepBut.set_ (KeepBut.set_ (KeepBut.set_ (KeepBut.refl _ _ _) 0 _) 1 _) 2 _⟩
  have h0 := blk_put (cs' := #[v0, u1, u2]) h 0 v0 rfl
  have h1 := blk_put (cs' := #[v0, v1, u2]) h0 1 v1 rfl
  exact blk_put h1 2 v2 rfl
theorem info59z : (Try.prog.info? 59).map (·.size) = some 4 := by kernel_rfl
theorem mail_one (a b c : Int) (s : ByteArray) : #[Value.int .i64 a, .int .i64 b, .int .i64 c, .string s].all (·.oneCell') = true := by simp [Value.oneCell']
theorem info55z : (Try.prog.info? 55).map (·.size) = some 3 := by kernel_rfl
theorem net_one (a c n k : Nat) (x y : Int) (A : Option Addr) : #[Value.int .i64 x, .int .i64 y, .slice A n k].all (·.oneCell') = true := by simp [Value.oneCell']
set_option maxHeartbeats 3200000 in
set_option maxRecDepth 100000 in
theorem refTwice (h : RowM w W V m) (hb : Below w.heap.size w W) (hl : m.length < 1000000) (hr : (m.map (·.1)).Pairwise (· < ·)) (room last id : Int) (hla : 0 ≤ last ∧ last < 1000000000) :
    Calls Try.prog 33 #[.agg #[.int .i64 room, .int .i64 last, V], .int .i64 id] W fun e W2 => ∃ V2, e = .returned (.tuple #[.agg #[.int .i64 room, .int .i64 (twiceL room last m id), V2], .int .i64 (twiceC room last m id).1, .int .i64 (twiceC room last m id).2]) ∧ RowM w W2 V2 (twiceM room last m id) ∧ Below w.heap.size w W2 ∧ Kept W W2 (PMail W) := by
  obtain ⟨A, c, rfl⟩ := Kd.R_slice h
  have HB := Aside0.mk hb
  have HB1 := Aside0.mk (below_alloc (below_alloc (Below.refl W.heap.size W) (.cells #[.int .i64 room, .int .i64 last, .slice A (refN m).length c] 55)) (.cells #[.int .i64 0, .int .i64 0, .slice none 0 0] 55))
  have HX := Aside0.mk (blk_alloc (heap_alloc_new W (.cells #[.int .i64 room, .int .i64 last, .slice A (refN m).length c] 55)) (.cells #[.int .i64 0, .int .i64 0, .slice none 0 0] 55))
  have HY := Aside0.mk (heap_alloc_new (W.alloc (.cells #[.int .i64 room, .int .i64 last, .slice A (refN m).length c] 55)) (.cells #[.int .i64 0, .int .i64 0, .slice none 0 0] 55))
  have HR := Aside0.mk h
  have HRR := Aside0.mk hr
  clear hb h hr
  unfold twiceL twiceC twiceM
  match hx : atN m id with
  | none =>
    go_enter Try.func33, Try.ntmps33
    go_upto_region 1 with fail
    rw [show (W.alloc (.cells #[.int .i64 room, .int .i64 last, .slice A (refN m).length c] 55)).heap.size = W.heap.size + 1 by simp] at HY
    generalize (W.alloc (.cells #[.int .i64 room, .int .i64 last, .slice A (refN m).length c] 55)).alloc (.cells #[.int .i64 0, .int .i64 0, .slice none 0 0] 55) = W1 at HB1 HX HY ⊢
    have c0 := (show W1.cell? ⟨W.heap.size, 0, none⟩ = some (.int .i64 room) from blk_cell HX.out 0)
    have c1 := (show W1.cell? ⟨W.heap.size, 1, none⟩ = some (.int .i64 last) from blk_cell HX.out 1)
    have c2 := (show W1.cell? ⟨W.heap.size, 2, none⟩ = some (.slice A (refN m).length c) from blk_cell HX.out 2)
    have HF := Aside0.mk (refFind (HR.out.below HB1.out) hl room last id)
    rw [findN_no hx] at HF
    clear hx
    go_wp2_with fail
    refine HF.out.mono ?_
    rintro e W2 ⟨rfl, hb2⟩
    have HX2 := Aside0.mk (blk_below HX.out hb2)
    have HY2 := Aside0.mk (blk_below HY.out hb2)
    have HB2 := Aside0.mk (below_step HB1.out hb2)
    clear hb2 HB1 HX HY c0 c1 c2 HF
    have c0 := (show W2.cell? ⟨W.heap.size, 0, none⟩ = some (.int .i64 room) from blk_cell HX2.out 0)
    have c1 := (show W2.cell? ⟨W.heap.size, 1, none⟩ = some (.int .i64 last) from blk_cell HX2.out 1)
    have c2 := (show W2.cell? ⟨W.heap.size, 2, none⟩ = some (.slice A (refN m).length c) from blk_cell HX2.out 2)
    go_wp2_with (refine store_own rfl 55 (.tmp 4) (.tmp 13) rfl (W.heap.size + 1) #[.int .i64 room, .int .i64 last, .slice A (refN m).length c] rfl rfl 55 _ HY2.out info55z rfl (net_one 0 0 _ _ _ _ _) ?_; intro W5 hW5 hb5 hk5; have H5 := Aside0.mk hW5; have HB5 := Aside0.mk hb5; have HK5 := Aside0.mk hk5; clear hW5 hb5 hk5)
    refine bodyPost_ret (v := .tuple #[.agg #[.int .i64 room, .int .i64 last, .slice A (refN m).length c], .int .i64 0, .int .i64 4]) (results_list (rs := [.cell 4 55, .tmp 5, .tmp 6]) rfl (by simp) (.cell (W.heap.size + 1) 55 _ (0, 0) _ rfl H5.out Try.underlying55 rfl info55z (.tmp (.tmp .nil)))) rfl ?_
    have hbW := below_weaken HB2.out (Nat.le_succ _) HB5.out
    exact ⟨_, rfl, HR.out.below hbW, below_step HB.out hbW, Kept.of_below hbW _⟩
  | some x =>
    go_enter Try.func33, Try.ntmps33
    go_upto_region 1 with fail
    rw [show (W.alloc (.cells #[.int .i64 room, .int .i64 last, .slice A (refN m).length c] 55)).heap.size = W.heap.size + 1 by simp] at HY
    generalize (W.alloc (.cells #[.int .i64 room, .int .i64 last, .slice A (refN m).length c] 55)).alloc (.cells #[.int .i64 0, .int .i64 0, .slice none 0 0] 55) = W1 at HB1 HX HY ⊢
    have c0 := (show W1.cell? ⟨W.heap.size, 0, none⟩ = some (.int .i64 room) from blk_cell HX.out 0)
    have c1 := (show W1.cell? ⟨W.heap.size, 1, none⟩ = some (.int .i64 last) from blk_cell HX.out 1)
    have c2 := (show W1.cell? ⟨W.heap.size, 2, none⟩ = some (.slice A (refN m).length c) from blk_cell HX.out 2)
    have HF := Aside0.mk (refFind (HR.out.below HB1.out) hl room last id)
    obtain ⟨j, hj, h1, h2⟩ := findN_yes HRR.out hx
    rw [h1] at HF
    clear hx h1
    have hjl : ((j : Int) < ((refN m).length : Int)) := by rw [refN_len]; omega
    have hjn : j < (refN m).length := by rw [refN_len]; exact hj
    have hj0 : ((j : Int) < 0) = False := eq_false (by omega)
    go_wp2_with fail
    refine HF.out.mono ?_
    rintro e W2 ⟨rfl, hb2⟩
    have HX2 := Aside0.mk (blk_below HX.out hb2)
    have HY2 := Aside0.mk (blk_below HY.out hb2)
    have HB2 := Aside0.mk (below_step HB1.out hb2)
    clear hb2 HB1 HX HY c0 c1 c2 HF
    have c0 := (show W2.cell? ⟨W.heap.size, 0, none⟩ = some (.int .i64 room) from blk_cell HX2.out 0)
    have c1 := (show W2.cell? ⟨W.heap.size, 1, none⟩ = some (.int .i64 last) from blk_cell HX2.out 1)
    have c2 := (show W2.cell? ⟨W.heap.size, 2, none⟩ = some (.slice A (refN m).length c) from blk_cell HX2.out 2)
    obtain ⟨ad, hA, z0, z1, z2, z3⟩ := at_T59 (Kd.R_reads' (HR.out.below HB2.out)).2.2 (j : Int) (by omega) hjl
    rw [h2, Int.toNat_natCast] at z0 z1 z2 z3
    subst hA
    have HR2 := Aside0.mk (HR.out.below HB2.out)
    clear HR h2
    go_upto_region 4 with fail
    go_region_law (refine goes_ Try.func64 (by kernel_rfl) rfl #[.agg #[.int .i64 room, .int .i64 last, .slice (some ad) (refN m).length c], .agg #[.int .i64 id, .int .i64 x.f0, .int .i64 x.f1, .string x.f2]] (by rfl) rfl rfl (by (try simp only [List.map_toArray, List.map_cons, List.map_nil]); first | done | rfl) ?_; refine (refPut (HR2.out.below (by repeat (first | (with_reducible first | exact Below.refl _ _ | apply below_alloc | apply pw_below_drewN | apply below_drew1) | exact Below.refl _ _))) (below_step (below_step HB.out HB2.out) (by repeat (first | (with_reducible first | exact Below.refl _ _ | apply below_alloc | apply pw_below_drewN | apply below_drew1) | exact Below.refl _ _))) hl room last id hla x).mono ?_; rintro e w3 ⟨V2, rfl, hr3, hb3, hk3⟩; refine ⟨_, rfl, ?_⟩; obtain ⟨A2, n2, rfl⟩ := Kd.R_slice hr3; have hY3 := blk_kept (g := W.heap.size + 1) (blk_below HY2.out (by repeat (first | (with_reducible first | exact Below.refl _ _ | apply below_alloc | apply pw_below_drewN | apply below_drew1) | exact Below.refl _ _))) hk3 (pmail_not (b := W.heap.size + 1) (t := 55) (cells := #[.int .i64 0, .int .i64 0, .slice none 0 0]) (blk_below HY2.out (by repeat (first | (with_reducible first | exact Below.refl _ _ | apply below_alloc | apply pw_below_drewN | apply below_drew1) | exact Below.refl _ _))) (by decide)); have HY3 := Aside0.mk hY3; have HR3 := Aside0.mk hr3; have HB3 := Aside0.mk hb3; have HK3 := Aside0.mk hk3; have y0 := (show w3.cell? ⟨W.heap.size + 1, 0, none⟩ = some (.int .i64 0) from blk_cell hY3 0); have yz0 := (show w3.frozen? ⟨W.heap.size + 1, 0, none⟩ = false from blk_frozen hY3 0); have y1 := (show w3.cell? ⟨W.heap.size + 1, 1, none⟩ = some (.int .i64 0) from blk_cell hY3 1); have yz1 := (show w3.frozen? ⟨W.heap.size + 1, 1, none⟩ = false from blk_frozen hY3 1); have y2 := (show w3.cell? ⟨W.heap.size + 1, 2, none⟩ = some (.slice none 0 0) from blk_cell hY3 2); have yz2 := (show w3.frozen? ⟨W.heap.size + 1, 2, none⟩ = false from blk_frozen hY3 2); clear hr3 hb3 hk3 hY3)
    all_goals
      go_wp2_with fail
      refine bodyPost_ret (v := .tuple #[.agg #[.int .i64 room, .int .i64 (putL room last m), .slice A2 (refN (putM room last m x)).length n2], .int .i64 (putC room last m).1, .int .i64 (putC room last m).2]) (results_list (rs := [.cell 4 55, .tmp 5, .tmp 6]) rfl (by simp) (.cell (W.heap.size + 1) 55 _ (0, 0) _ rfl (set3 HY3.out _ _ _).1 Try.underlying55 rfl info55z (.tmp (.tmp .nil)))) rfl ?_
      have hkk := (set3 HY3.out (.int .i64 room) (.int .i64 (putL room last m)) (.slice A2 (refN (putM room last m x)).length n2)).2
      have hws := HB.out.size
      have hge : w.heap.size ≤ W.heap.size + 1 := by omega
      have hk0 : Kept W w3 (PMail W) := ⟨Nat.le_trans HB2.out.size HK3.out.1, fun i hi hn => (HK3.out.2 i (Nat.lt_of_lt_of_le hi HB2.out.size) (fun hp => hn (by
        obtain ⟨cells, hc⟩ := hp
        exact ⟨cells, (HB2.out.block i hi).symm.trans hc⟩))).trans (HB2.out.block i hi)⟩
      refine ⟨_, rfl, ?_, ((HB3.out.setCell hge _).setCell hge _).setCell hge _, ⟨Nat.le_trans hk0.1 hkk.1, fun i hi hn => (hkk.2 i (Nat.lt_of_lt_of_le hi hk0.1) (by omega) (by simp)).trans (hk0.2 i hi hn)⟩⟩
      refine Kd.R_mono (Kd.R_keep (Kd.R_bound HR3.out) hkk (fun k hk e => ?_)) (fun _ _ => trivial)
      obtain ⟨_, _, _, q, hq, cells, hc⟩ := hk
      rw [e, HY3.out] at hc
      injection hc with hc
      injection hc with _ hc
      rw [← hc] at hq
      revert hq
      decide
end
end Go.Proofs.Ytcddajdjmlmpdaa.Print
