/- net: a net in memory; New, put, Send. -/
-- ROOT mosaic/mosaiclaw21.NetPlays
import Derived.Test.YtcddajdjmlmpdaaPrK
import Derived.Test.YtcddajdjmlmpdaaMaMaps1
import Derived.Test.YtcddajdjmlmpdaaPr59
import Derived.Test.YtcddajdjmlmpdaaMaMaps1
import Derived.IntWalk
import Derived.BigQuiet
import Derived.Deep.QuietTactic
import Derived.Deep.RegionLaw
import Derived.Deep.RegionHeld3
import Derived.RegionTactic
import Derived.StillTailTactics
import Derived.Outline
import Derived.Laws.CopyOwn
namespace Go.Proofs.Ytcddajdjmlmpdaa.Print
open Go.RowKit Go.Proofs.YtcddajdjmlmpdaaW.PrintWords Go.Proofs.YtcddajdjmlmpdaaW.PrintLast Go.Proofs.YtcddajdjmlmpdaaW.PrintMore
open Go.ChangeMaps (setBlock)
open Go.Maps (Keyed)
set_option linter.unusedVariables false
set_option linter.unusedSimpArgs false

abbrev Gr := S41
abbrev NMs := List (Int × Gr)
def gramV (g : Gr) : Value := .agg #[.int .i64 g.f0, .int .i64 g.f1, .string g.f2]
def entV (m : NMs) : List (Value × Value) := m.map fun p => (.int .i64 p.1, gramV p.2)
theorem intK : Keyed Try.prog 3 := Go.Maps.int_keyed Try.underlying3
/-- A net at block g, its map at block b. -/
structure NetAt (w W : World) (g b : Nat) (room last : Int) (m : NMs) : Prop where
  blk : W.heap[g]? = some (.cells #[.int .i64 room, .int .i64 last, .map (some b)] 110 (0, 0))
  map : IsMap Try.prog 3 W b (entV m)
  ge : w.heap.size ≤ g
  bge : w.heap.size ≤ b
  bel : Below w.heap.size w W
  rise : (m.map (·.1)).Pairwise (· < ·)
  top : ∀ p ∈ m, 1 ≤ p.1 ∧ p.1 ≤ last
  lo : 0 ≤ last
section
variable {w W W2 : World} {g b : Nat} {room last : Int} {m : NMs}
theorem NetAt.below (h : NetAt w W g b room last m) (hb : Below W.heap.size W W2) : NetAt w W2 g b room last m := ⟨blk_below h.blk hb, h.map.below hb, h.ge, h.bge, below_step h.bel hb, h.rise, h.top, h.lo⟩
theorem NetAt.ne (h : NetAt w W g b room last m) : g ≠ b := by
  obtain ⟨es, clock, hm⟩ := h.map
  intro e
  have h1 := h.blk
  have h2 := hm.blk
  rw [e, h2] at h1
  cases h1
theorem keyI {x : Int} (h : (Lit.int .i64 x).wf = true) : keyOf Try.prog 3 (.int .i64 x) = some (.int .i64 x) := Go.Maps.keyOf_int_mk Try.underlying3 h
theorem New_yes (room : Int) (w : World) (h1 : 1 ≤ room) (h2 : room ≤ 600) : Calls Try.prog 18 #[.int .i64 room] w fun e W => ∃ g b, e = .returned (.pointer (some ⟨g, 0, none⟩)) ∧ NetAt w W g b room 0 [] := by
  have hmm := @run_makeMap Try.prog
  go_enter Try.func18, Try.ntmps18
  go_wp2
  go_ret
  have hg := heap_alloc_new (w.alloc (.map #[] 0)) (.cells #[.int .i64 room, .int .i64 0, .map (some w.heap.size)] 110)
  rw [show (w.alloc (.map #[] 0)).heap.size = w.heap.size + 1 by simp] at hg
  exact ⟨w.heap.size + 1, w.heap.size, rfl, hg, (IsMap.made w _).below (below_alloc (Below.refl _ _) _), by omega, Nat.le_refl _, below_alloc (below_alloc (Below.refl _ _) _) _, by simp, by simp, by omega⟩
theorem New_no (room : Int) (w : World) (h : ¬ (1 ≤ room ∧ room ≤ 600)) : Calls Try.prog 18 #[.int .i64 room] w fun e W => e = .returned (.pointer none) ∧ Below w.heap.size w W := by
  by_cases h1 : room < 1
  · go_enter Try.func18, Try.ntmps18
    go_wp2
    go_ret
    exact ⟨rfl, Below.refl _ _⟩
  · have h2 : 600 < room := by omega
    clear h
    go_enter Try.func18, Try.ntmps18
    go_wp2
    go_ret
    exact ⟨rfl, Below.refl _ _⟩
/-- The blocks that acts on a net write. -/
def FootN (W : World) (k : Nat) : Prop := (∃ es c, W.heap[k]? = some (.map es c)) ∨ (∃ cells, W.heap[k]? = some (.cells cells 110 (0, 0)))
structure NetDid (w W W2 : World) (g b : Nat) (room last : Int) (m : NMs) : Prop where
  net : NetAt w W2 g b room last m
  kept : Kept W W2 (FootN W)
theorem NetAt.footG (h : NetAt w W g b room last m) : FootN W g := .inr ⟨_, h.blk⟩
theorem NetAt.footB (h : NetAt w W g b room last m) : FootN W b := by
  obtain ⟨es, clock, hm⟩ := h.map
  exact .inl ⟨es, clock, hm.blk⟩
theorem NetAt.stay (h : NetAt w W g b room last m) (hb : Below W.heap.size W W2) : NetDid w W W2 g b room last m := ⟨h.below hb, Kept.of_below hb _⟩
/-- What stands between is new blocks alone. -/
theorem keptN_step {W1 : World} (h : NetAt w W g b room last m) (hb : Below W.heap.size W W1) (hk : Kept W1 W2 (FootN W1)) : Kept W W2 (FootN W) := by
  refine ⟨Nat.le_trans hb.size hk.1, fun i hi hn => ?_⟩
  have e := hb.block i hi
  refine (hk.2 i (Nat.lt_of_lt_of_le hi hb.size) (fun hf => hn ?_)).trans e
  unfold FootN at hf ⊢
  rw [e] at hf
  exact hf
theorem entV_len (m : NMs) : (entV m).length = m.length := List.length_map _
theorem NetAt.lenAt (h : NetAt w W g b room last m) (n : Nat) : (Builtin.len_ #[108] 3 #[.map (some b)]).run Try.prog (W.drewN n) = .ok (.int .i64 (m.length : Nat)) (W.drewN n) := by
  rw [← entV_len m]
  exact (h.map.below (Drawn0.below ⟨n, rfl⟩)).len Try.underlying108 _
theorem NetAt.put_full (h : NetAt w W g b room last m) (hr : room ≤ (m.length : Int)) (x : Gr) :
    Calls Try.prog 60 #[.pointer (some ⟨g, 0, none⟩), .agg #[.int .i64 x.f0, .int .i64 x.f1, .string x.f2]] W fun e W2 => e = .returned (.tuple #[.int .i64 0, .int .i64 6]) ∧ NetDid w W W2 g b room last m := by
  have H := Aside0.mk (h.below (below_alloc (Below.refl _ _) (.cells #[.int .i64 x.f0, .int .i64 x.f1, .string x.f2] 41)))
  have HB := Aside0.mk (below_alloc (Below.refl W.heap.size W) (.cells #[.int .i64 x.f0, .int .i64 x.f1, .string x.f2] 41))
  have H0 := Aside0.mk h
  clear h
  go_enter Try.func60, Try.ntmps60
  go_wp2_with fail
  generalize W.alloc (.cells #[.int .i64 x.f0, .int .i64 x.f1, .string x.f2] 41) = W1 at H HB ⊢
  have k0 := (show W1.cell? ⟨g, 0, none⟩ = some (.int .i64 room) from blk_cell H.out.blk 0)
  have k2 := (show W1.cell? ⟨g, 2, none⟩ = some (.map (some b)) from blk_cell H.out.blk 2)
  have hlen := fun n => H.out.lenAt n
  have hle : (room ≤ (m.length : Int)) = True := eq_true hr
  clear hr
  go_quiet (fail)
  go_wp2_with fail
  go_ret2
  exact ⟨rfl, H0.out.stay (pw_below_drewN HB.out nq)⟩
theorem keepN (W : World) (b n : Nat) (o : Obj) : setBlock (W.drewN n) b o = (setBlock W b o).drewN n := rfl
theorem NetAt.fresh (h : NetAt w W g b room last m) (k : Int) (hk : last < k) : ∀ p ∈ entV m, p.1 ≠ .int .i64 k := by
  intro p hp e
  obtain ⟨q, hq, rfl⟩ := List.mem_map.1 hp
  have h1 := (h.top q hq).2
  have h2 : q.1 = k := by
    injection e
  omega
set_option maxHeartbeats 1600000 in
set_option maxRecDepth 100000 in
theorem NetAt.put_ok (h : NetAt w W g b room last m) (hr : (m.length : Int) < room) (hl : last < 1000000000) (x : Gr) :
    Calls Try.prog 60 #[.pointer (some ⟨g, 0, none⟩), .agg #[.int .i64 x.f0, .int .i64 x.f1, .string x.f2]] W fun e W2 => e = .returned (.tuple #[.int .i64 (last + 1), .int .i64 0]) ∧ NetDid w W W2 g b room (last + 1) (m ++ [(last + 1, x)]) := by
  have H := Aside0.mk (h.below (below_alloc (Below.refl _ _) (.cells #[.int .i64 x.f0, .int .i64 x.f1, .string x.f2] 41)))
  have HB := Aside0.mk (below_alloc (Below.refl W.heap.size W) (.cells #[.int .i64 x.f0, .int .i64 x.f1, .string x.f2] 41))
  have HX := Aside0.mk (heap_alloc_new W (.cells #[.int .i64 x.f0, .int .i64 x.f1, .string x.f2] 41))
  have H0 := Aside0.mk h
  have hlo := h.lo
  have hov : IntKind.i64.wrap (last + 1) = last + 1 := IntWalk.i64_in _ (by omega)
  clear h
  go_enter Try.func60, Try.ntmps60
  go_wp2_with fail
  generalize W.alloc (.cells #[.int .i64 x.f0, .int .i64 x.f1, .string x.f2] 41) = W1 at H HB HX ⊢
  have k0 := (show W1.cell? ⟨g, 0, none⟩ = some (.int .i64 room) from blk_cell H.out.blk 0)
  have k1 := (show W1.cell? ⟨g, 1, none⟩ = some (.int .i64 last) from blk_cell H.out.blk 1)
  have f1 := (show W1.frozen? ⟨g, 1, none⟩ = false from blk_frozen H.out.blk 1)
  have k2 := (show W1.cell? ⟨g, 2, none⟩ = some (.map (some b)) from blk_cell H.out.blk 2)
  have hlen := fun n => H.out.lenAt n
  have hle : (room ≤ (m.length : Int)) = False := eq_false (by omega)
  clear hr
  go_quiet (fail)
  go_upto_region 4 with fail
  have hbel : Below w.heap.size w ((W1.drewN nq).setCell ⟨g, 1, none⟩ (.int .i64 (last + 1))) := (pw_below_drewN H.out.bel nq).setCell H.out.ge _
  have hkp : KeepBut W1 ((W1.drewN nq).setCell ⟨g, 1, none⟩ (.int .i64 (last + 1))) g none := KeepBut.set_ (keep_drewN (KeepBut.refl _ _ _) nq) 1 _
  have hgb : ((W1.drewN nq).setCell ⟨g, 1, none⟩ (.int .i64 (last + 1))).heap[g]? = some (.cells #[.int .i64 room, .int .i64 (last + 1), .map (some b)] 110 (0, 0)) := blk_put (blk_drewN H.out.blk nq) 1 _ rfl
  have hxb := hkp.blk HX.out (Ne.symm (Nat.ne_of_lt (blk_lt H0.out.blk))) (by simp)
  have hmp := H.out.map.keep hkp (Ne.symm H.out.ne)
  have HGB := Aside0.mk hgb
  have HBEL := Aside0.mk hbel
  have HKP := Aside0.mk hkp
  have HXB := Aside0.mk hxb
  generalize (W1.drewN nq).setCell ⟨g, 1, none⟩ (.int .i64 (last + 1)) = W3 at hmp HGB HBEL HKP HXB ⊢
  clear hgb hbel hkp hxb k0 k1 f1 k2
  have hwf : (Lit.int .i64 (last + 1)).wf = true := Go.WalkArith.wf_i64 (by omega)
  obtain ⟨o, hrun, hmp2⟩ := (show IsMap Try.prog 3 W3.drew b (entV m) from hmp.below (Below.refl _ _).drew).store intK Try.underlying108 (keyI hwf) (H.out.fresh (last + 1) (by omega)) (gramV x)
  have HM2 := Aside0.mk hmp2
  have k1 := (show W3.cell? ⟨g, 1, none⟩ = some (.int .i64 (last + 1)) from blk_cell HGB.out 1)
  have k2 := (show W3.cell? ⟨g, 2, none⟩ = some (.map (some b)) from blk_cell HGB.out 2)
  have x0 := (show W3.cell? ⟨W.heap.size, 0, none⟩ = some (.int .i64 x.f0) from blk_cell HXB.out 0)
  have x1 := (show W3.cell? ⟨W.heap.size, 1, none⟩ = some (.int .i64 x.f1) from blk_cell HXB.out 1)
  have x2 := (show W3.cell? ⟨W.heap.size, 2, none⟩ = some (.string x.f2) from blk_cell HXB.out 2)
  have hrun0 : (Instr.mapUpdate 108 (.map (some b)) (.int .i64 (last + 1)) (.agg #[.int .i64 x.f0, .int .i64 x.f1, .string x.f2])).run Try.prog W3.drew = .ok () (setBlock W3.drew b o) := hrun
  have hg2 : (setBlock W3.drew b o).heap[g]? = some (.cells #[.int .i64 room, .int .i64 (last + 1), .map (some b)] 110 (0, 0)) := (setBlock_ne W3.drew H.out.ne o).trans HGB.out
  have hx2 : (setBlock W3.drew b o).heap[W.heap.size]? = some (.cells #[.int .i64 x.f0, .int .i64 x.f1, .string x.f2] 41 (0, 0)) := (setBlock_ne W3.drew (Ne.symm (Nat.ne_of_lt H0.out.map.lt)) o).trans HXB.out
  have c1 := (show (setBlock W3.drew b o).cell? ⟨g, 1, none⟩ = some (.int .i64 (last + 1)) from blk_cell hg2 1)
  have c2 := (show (setBlock W3.drew b o).cell? ⟨g, 2, none⟩ = some (.map (some b)) from blk_cell hg2 2)
  have c3 := (show (setBlock W3.drew b o).cell? ⟨W.heap.size, 0, none⟩ = some (.int .i64 x.f0) from blk_cell hx2 0)
  have c4 := (show (setBlock W3.drew b o).cell? ⟨W.heap.size, 1, none⟩ = some (.int .i64 x.f1) from blk_cell hx2 1)
  have c5 := (show (setBlock W3.drew b o).cell? ⟨W.heap.size, 2, none⟩ = some (.string x.f2) from blk_cell hx2 2)
  have HG2 := Aside0.mk hg2
  clear hmp hmp2 hrun hlen hg2 hx2
  go_region_held3 (fun w' => w'.cell? ⟨g, 1, none⟩ = some (.int .i64 (last + 1)) ∧ w'.cell? ⟨g, 2, none⟩ = some (.map (some b)) ∧ w'.cell? ⟨W.heap.size, 0, none⟩ = some (.int .i64 x.f0) ∧ w'.cell? ⟨W.heap.size, 1, none⟩ = some (.int .i64 x.f1) ∧ w'.cell? ⟨W.heap.size, 2, none⟩ = some (.string x.f2)) (go_keep) (fail)
  go_wp2_with fail
  go_ret2
  refine ⟨rfl, ⟨HG2.out, ?_, H0.out.ge, H0.out.bge, setBlock_below HBEL.out.drew H0.out.bge o, ?_, ?_, by omega⟩, ?_⟩
  · have := HM2.out
    unfold entV at this ⊢
    rw [List.map_append]
    exact this
  · rw [List.map_append, List.pairwise_append]
    refine ⟨H0.out.rise, by simp, fun a ha c hc => ?_⟩
    obtain ⟨p, hp, rfl⟩ := List.mem_map.1 ha
    have hc2 : c = last + 1 := by simpa using hc
    have := (H0.out.top p hp).2
    omega
  · intro p hp
    rcases List.mem_append.1 hp with hp | hp
    · have := H0.out.top p hp
      omega
    · have : p = (last + 1, x) := by simpa using hp
      subst this
      exact ⟨by show 1 ≤ last + 1; omega, Int.le_refl _⟩
  · refine ⟨Nat.le_trans HB.out.size (Nat.le_trans HKP.out.1 (by rw [setBlock_size]; exact Nat.le_refl _)), fun i hi hn => ?_⟩
    have hig : i ≠ g := fun e => hn (e ▸ H0.out.footG)
    have hib : i ≠ b := fun e => hn (e ▸ H0.out.footB)
    exact (setBlock_ne W3.drew hib o).trans ((HKP.out.2 i (Nat.lt_of_lt_of_le hi HB.out.size) hig (by simp)).trans (HB.out.block i hi))
/-- A call of put, whatever there is. -/
def putC (room last : Int) (m : NMs) : Int × Int := if room ≤ (m.length : Int) then (0, 6) else (last + 1, 0)
def putL (room last : Int) (m : NMs) : Int := if room ≤ (m.length : Int) then last else last + 1
def putM (room last : Int) (m : NMs) (x : Gr) : NMs := if room ≤ (m.length : Int) then m else m ++ [(last + 1, x)]
theorem NetAt.put_any (h : NetAt w W g b room last m) (hl : last < 1000000000) (x : Gr) :
    Calls Try.prog 60 #[.pointer (some ⟨g, 0, none⟩), .agg #[.int .i64 x.f0, .int .i64 x.f1, .string x.f2]] W fun e W2 => e = .returned (.tuple #[.int .i64 (putC room last m).1, .int .i64 (putC room last m).2]) ∧ NetDid w W W2 g b room (putL room last m) (putM room last m x) := by
  unfold putC putL putM
  by_cases hr : room ≤ (m.length : Int)
  · rw [if_pos hr, if_pos hr, if_pos hr]
    exact h.put_full hr x
  · rw [if_neg hr, if_neg hr, if_neg hr]
    exact h.put_ok (by omega) hl x
theorem peer_calls (n : Int) (W : World) : Calls Try.prog 59 #[.int .i64 n] W fun e W2 => e = .returned (.bool (decide (1 ≤ n ∧ n ≤ 15))) ∧ Drawn0 W W2 := by
  refine net_peer.calls n _ W ?_
  unfold net_peer.f
  by_cases h : 1 ≤ n
  · rw [if_pos h]
    simp [h]
  · rw [if_neg (by omega)]
    simp [h]
/-- May a datagram be sent? -/
def goodG (x : Gr) : Prop := (1 ≤ x.f0 ∧ x.f0 ≤ 15) ∧ (1 ≤ x.f1 ∧ x.f1 ≤ 15) ∧ x.f0 ≠ x.f1 ∧ (x.f2.size : Int) ≤ 400
instance (x : Gr) : Decidable (goodG x) := by unfold goodG; infer_instance
theorem peer_yes {n : Int} (h : 1 ≤ n ∧ n ≤ 15) (W : World) : Calls Try.prog 59 #[.int .i64 n] W fun e W2 => e = .returned (.bool true) ∧ Drawn0 W W2 := by
  have := peer_calls n W
  rwa [decide_eq_true h] at this
theorem peer_no {n : Int} (h : ¬ (1 ≤ n ∧ n ≤ 15)) (W : World) : Calls Try.prog 59 #[.int .i64 n] W fun e W2 => e = .returned (.bool false) ∧ Drawn0 W W2 := by
  have := peer_calls n W
  rwa [decide_eq_false h] at this
set_option maxHeartbeats 1600000 in
set_option maxRecDepth 100000 in
theorem NetAt.Send_bad (h : NetAt w W g b room last m) (x : Gr) (hbad : ¬ goodG x) :
    Calls Try.prog 20 #[.pointer (some ⟨g, 0, none⟩), .agg #[.int .i64 x.f0, .int .i64 x.f1, .string x.f2]] W fun e W2 => e = .returned (.tuple #[.int .i64 0, .int .i64 1]) ∧ NetDid w W W2 g b room last m := by
  have H0 := Aside0.mk h
  by_cases h0 : 1 ≤ x.f0 ∧ x.f0 ≤ 15
  · have HPa := Aside0.mk (peer_yes h0)
    by_cases h1 : 1 ≤ x.f1 ∧ x.f1 ≤ 15
    · have HPb := Aside0.mk (peer_yes h1)
      by_cases he : x.f0 = x.f1
      · have hq : (x.f0 == x.f1) = true := by simp [he]
        have HE := Aside0.mk he
        clear he hbad h0 h1
        have HBW := Aside0.mk (below_alloc (Below.refl W.heap.size W) (.cells #[.int .i64 x.f0, .int .i64 x.f1, .string x.f2] 41))
        clear h
        go_enter Try.func20, Try.ntmps20
        go_wp2_with (first | (go_at_call 59; refine (HPa.out _).mono ?_; rintro e W2 ⟨rfl, ⟨ma, rfl⟩⟩) | (go_at_call 59; refine (HPb.out _).mono ?_; rintro e W2 ⟨rfl, ⟨mb, rfl⟩⟩))
        go_ret2
        exact ⟨rfl, H0.out.stay (by repeat (first | exact HBW.out | apply pw_below_drewN))⟩
      · have hs : 400 < (x.f2.size : Int) := by
          by_cases hs : (x.f2.size : Int) ≤ 400
          · exact absurd ⟨h0, h1, he, hs⟩ hbad
          · omega
        have hq : (x.f0 == x.f1) = false := by simp [he]
        have hs1 : ((400 : Int) < (x.f2.size : Int)) = True := eq_true hs
        have hs2 : (400 < x.f2.size) = True := eq_true (by omega)
        clear hbad h0 h1 hs he
        have HBW := Aside0.mk (below_alloc (Below.refl W.heap.size W) (.cells #[.int .i64 x.f0, .int .i64 x.f1, .string x.f2] 41))
        clear h
        go_enter Try.func20, Try.ntmps20
        go_wp2_with (first | (go_at_call 59; refine (HPa.out _).mono ?_; rintro e W2 ⟨rfl, ⟨ma, rfl⟩⟩) | (go_at_call 59; refine (HPb.out _).mono ?_; rintro e W2 ⟨rfl, ⟨mb, rfl⟩⟩))
        go_ret2
        exact ⟨rfl, H0.out.stay (by repeat (first | exact HBW.out | apply pw_below_drewN))⟩
    · have HPb := Aside0.mk (peer_no h1)
      clear hbad h0 h1
      have HBW := Aside0.mk (below_alloc (Below.refl W.heap.size W) (.cells #[.int .i64 x.f0, .int .i64 x.f1, .string x.f2] 41))
      clear h
      go_enter Try.func20, Try.ntmps20
      go_wp2_with (first | (go_at_call 59; refine (HPa.out _).mono ?_; rintro e W2 ⟨rfl, ⟨ma, rfl⟩⟩) | (go_at_call 59; refine (HPb.out _).mono ?_; rintro e W2 ⟨rfl, ⟨mb, rfl⟩⟩))
      go_ret2
      exact ⟨rfl, H0.out.stay (by repeat (first | exact HBW.out | apply pw_below_drewN))⟩
  · have HPa := Aside0.mk (peer_no h0)
    have HPb := Aside0.mk (peer_no h0)
    clear hbad h0
    have HBW := Aside0.mk (below_alloc (Below.refl W.heap.size W) (.cells #[.int .i64 x.f0, .int .i64 x.f1, .string x.f2] 41))
    clear h
    go_enter Try.func20, Try.ntmps20
    go_wp2_with (first | (go_at_call 59; refine (HPa.out _).mono ?_; rintro e W2 ⟨rfl, ⟨ma, rfl⟩⟩) | (go_at_call 59; refine (HPb.out _).mono ?_; rintro e W2 ⟨rfl, ⟨mb, rfl⟩⟩))
    go_ret2
    exact ⟨rfl, H0.out.stay (by repeat (first | exact HBW.out | apply pw_below_drewN))⟩
set_option maxHeartbeats 1600000 in
set_option maxRecDepth 100000 in
theorem NetAt.Send_good (h : NetAt w W g b room last m) (hl : last < 1000000000) (x : Gr) (hgood : goodG x) :
    Calls Try.prog 20 #[.pointer (some ⟨g, 0, none⟩), .agg #[.int .i64 x.f0, .int .i64 x.f1, .string x.f2]] W fun e W2 => e = .returned (.tuple #[.int .i64 (putC room last m).1, .int .i64 (putC room last m).2]) ∧ NetDid w W W2 g b room (putL room last m) (putM room last m x) := by
  have H0 := Aside0.mk h
  have HPUT := Aside0.mk (fun (W' : World) (hb : Below W.heap.size W W') => ((h.below hb).put_any hl x).mono (fun e W2 q => show e = _ ∧ NetDid w W W2 g b room (putL room last m) (putM room last m x) from ⟨q.1, ⟨q.2.net, keptN_step h hb q.2.kept⟩⟩))
  obtain ⟨h0, h1, he, hs⟩ := hgood
  have HPa := Aside0.mk (peer_yes h0)
  have HPb := Aside0.mk (peer_yes h1)
  have hq : (x.f0 == x.f1) = false := by simp [he]
  have hs1 : ((400 : Int) < (x.f2.size : Int)) = False := eq_false (by omega)
  have hs2 : (400 < x.f2.size) = False := eq_false (by omega)
  clear h0 h1 he hs
  have HBW := Aside0.mk (below_alloc (Below.refl W.heap.size W) (.cells #[.int .i64 x.f0, .int .i64 x.f1, .string x.f2] 41))
  clear h
  go_enter Try.func20, Try.ntmps20
  go_wp2_with (first | (go_at_call 59; refine (HPa.out _).mono ?_; rintro e W2 ⟨rfl, ⟨ma, rfl⟩⟩) | (go_at_call 59; refine (HPb.out _).mono ?_; rintro e W2 ⟨rfl, ⟨mb, rfl⟩⟩))
  refine (HPUT.out _ (by repeat (first | exact HBW.out | apply pw_below_drewN))).mono ?_
  rintro e W3 ⟨rfl, d⟩
  have HD := Aside0.mk d
  clear d
  go_wp2_with fail
  go_ret2
  exact ⟨rfl, HD.out⟩
theorem NetAt.Send_any (h : NetAt w W g b room last m) (hl : last < 1000000000) (x : Gr) :
    Calls Try.prog 20 #[.pointer (some ⟨g, 0, none⟩), .agg #[.int .i64 x.f0, .int .i64 x.f1, .string x.f2]] W fun e W2 => e = .returned (.tuple #[.int .i64 (if goodG x then (putC room last m).1 else 0), .int .i64 (if goodG x then (putC room last m).2 else 1)]) ∧ NetDid w W W2 g b room (if goodG x then putL room last m else last) (if goodG x then putM room last m x else m) := by
  by_cases hg : goodG x
  · rw [if_pos hg, if_pos hg, if_pos hg, if_pos hg]
    exact h.Send_good hl x hg
  · rw [if_neg hg, if_neg hg, if_neg hg, if_neg hg]
    exact h.Send_bad x hg
end
end Go.Proofs.Ytcddajdjmlmpdaa.Print
