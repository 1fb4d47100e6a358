/- The law NetCounts, by hand. -/
-- MANUAL mosaic/mosaiclaw21.NetCounts making plain
import Derived.Test.YtcddajdjmlmpdaaPrK
import Derived.Test.YtcddajdjmlmpdaaMaMaps1
import Derived.Test.YtcddajdjmlmpdaaMaNet1
import Derived.Test.YtcddajdjmlmpdaaMaNet2
import Derived.Test.YtcddajdjmlmpdaaMaNet3
import Derived.Test.YtcddajdjmlmpdaaMaNet4
import Derived.Test.YtcddajdjmlmpdaaPr26
import Derived.Test.YtcddajdjmlmpdaaPrE41
import Derived.Test.YtcddajdjmlmpdaaPureW
import Derived.Test.YtcddajdjmlmpdaaMaNet4
import Derived.Test.YtcddajdjmlmpdaaMaNetFull
import Derived.Test.YtcddajdjmlmpdaaPrE41
import Derived.Test.YtcddajdjmlmpdaaPureW
import Derived.IntWalk
import Derived.BigQuiet
import Derived.Deep.QuietTactic
import Derived.Deep.RegionLaw
import Derived.Deep.RegionHeld3
import Derived.Deep.DeepCutAuto
import Derived.RegionTactic
import Derived.StillTailTactics
import Derived.Outline
import Derived.Laws.CopyOwn
namespace Go.Proofs.Ytcddajdjmlmpdaa.Print
open Go.RowKit Go.Proofs.YtcddajdjmlmpdaaW.PrintWords Go.Proofs.YtcddajdjmlmpdaaW.PrintLast Go.Proofs.YtcddajdjmlmpdaaW.PrintMore
attribute [local go_sem high] eqA41
set_option linter.unusedVariables false
set_option linter.unusedSimpArgs false

def sameG (y x : Gr) : Bool := y.f0 == x.f0 && (y.f1 == x.f1 && (y.f2.toList == x.f2.toList))
theorem among_ev (l : List Gr) (x : Gr) (hl : l.length < 1000000) : ∀ (d i : Nat), i + d = l.length → Ev (fun k => mosaiclaw21_among.l0 k l (i : Int) x.f0 x.f1 x.f2) ((l.drop i).any fun y => sameG y x)
  | 0, i, h => by
    refine Ev.succ ?_
    simp only [mosaiclaw21_among.l0]
    refine Ev.neg (by omega) (Ev.some_ ?_)
    rw [List.drop_eq_nil_of_le (by omega)]
    rfl
  | d + 1, i, h => by
    have hi : i < l.length := by omega
    have hrd : rd_T41 l (i : Int) = l[i] := by
      unfold rd_T41
      rw [Int.toNat_natCast, List.getD_eq_getElem?_getD, List.getElem?_eq_getElem hi]
      rfl
    refine Ev.succ ?_
    simp only [mosaiclaw21_among.l0]
    rw [hrd, List.drop_eq_getElem_cons hi, List.any_cons, Go.Proofs.Ytcddajdjmlmpdaa.Pure.wrap_succ i (by omega)]
    refine Ev.pos (by omega) (Ev.pos (by omega) ?_)
    by_cases hs : sameG l[i] x = true
    · refine Ev.pos hs (Ev.some_ ?_)
      rw [hs, Bool.true_or]
    · refine Ev.neg hs ((among_ev l x hl d (i + 1) (by omega)).to ?_)
      rw [show sameG l[i] x = false by simpa using hs, Bool.false_or]
theorem among_calls {W : World} {base : Nat} {ok : Nat → Prop} {v : Value} {l : List Gr} (h : Kd.R k41 41 W base ok v l) (hl : l.length < 1000000) (x : Gr) (hx : x ∈ l) :
    Calls Try.prog 26 #[v, .agg #[.int .i64 x.f0, .int .i64 x.f1, .string x.f2]] W fun e W2 => e = .returned (.bool true) ∧ Below W.heap.size W W2 := by
  obtain ⟨A, c, rfl⟩ := Kd.R_slice h
  obtain ⟨k, hk⟩ := (among_ev l x hl l.length 0 (by omega)).rounds
  rw [List.drop_zero, show (l.any fun y => sameG y x) = true from List.any_eq_true.2 ⟨x, hx, by simp [sameG]⟩] at hk
  exact mosaiclaw21_among.calls k A c l x.f0 x.f1 x.f2 true W (Kd.R_reads' h).2.2 (Kd.R_reads' h).2.1 hk
theorem rows_footN {W W2 : World} {α : Type} {d : Kd α} {e : Nat} {base : Nat} {ok : Nat → Prop} {v : Value} {xs : List α} (h : Kd.R d e W base ok v xs) (hk : Kept W W2 (FootN W)) (ht : ∀ q, q ∈ e :: d.E → q ≠ 110) : Kd.R d e W2 base ok v xs :=
  Kd.R_mono (Kd.R_move (Kd.R_bound h) (fun k hk1 => by
    obtain ⟨_, _, hk3, q, hq, cells, hc⟩ := hk1
    exact hk.2 k hk3 (footN_not hc (ht q hq)))) (fun _ hk => hk.1)
/-- The count: what is under way, what was put and what has gone, and what was sent. -/
structure CI (w W : World) (g b i : Nat) (P G : Int) (V : Value) (last : Int) (m : NMs) (sent : List Gr) : Prop where
  net : NetAt w W g b 40 last m
  len : (m.length : Int) = P - G
  p0 : 0 ≤ P ∧ P ≤ (i : Int)
  g0 : 0 ≤ G ∧ G ≤ (i : Int)
  la : last ≤ (i : Int)
  m40 : m.length ≤ 40
  row : Kd.R k41 41 W w.heap.size (fun _ => True) V sent
  sl : sent.length ≤ i
  mem : ∀ p ∈ m, p.2 ∈ sent
section
variable {w W W2 : World} {g b i : Nat} {P G last : Int} {V : Value} {m : NMs} {sent : List Gr}
theorem CI.below (h : CI w W g b i P G V last m sent) (hb : Below W.heap.size W W2) : CI w W2 g b i P G V last m sent := ⟨h.net.below hb, h.len, h.p0, h.g0, h.la, h.m40, Kd.R_below h.row hb, h.sl, h.mem⟩
theorem CI.next (h : CI w W g b i P G V last m sent) : CI w W g b (i + 1) P G V last m sent := ⟨h.net, h.len, by have := h.p0; omega, by have := h.g0; omega, by have := h.la; omega, h.m40, h.row, by have := h.sl; omega, h.mem⟩
theorem CI.stay (h : CI w W g b i P G V last m sent) (d : NetDid w W W2 g b 40 last m) : CI w W2 g b (i + 1) P G V last m sent := ⟨d.net, h.len, by have := h.p0; omega, by have := h.g0; omega, by have := h.la; omega, h.m40, rows_footN h.row d.kept (by decide), by have := h.sl; omega, h.mem⟩
/-- One more of what was sent. -/
theorem CI.more (h : CI w W g b i P G V last m sent) {x : Gr} (hx : x ∈ sent) (hm : m.length < 40) (d : NetDid w W W2 g b 40 (last + 1) (m ++ [(last + 1, x)])) : CI w W2 g b (i + 1) (P + 1) G V (last + 1) (m ++ [(last + 1, x)]) sent := by
  refine ⟨d.net, ?_, by have := h.p0; omega, by have := h.g0; omega, by have := h.la; omega, ?_, rows_footN h.row d.kept (by decide), by have := h.sl; omega, fun p hp => ?_⟩
  · have := h.len
    rw [List.length_append]
    simp
    omega
  · rw [List.length_append]
    simp
    omega
  · rcases List.mem_append.1 hp with hp | hp
    · exact h.mem p hp
    · rw [List.mem_singleton.1 hp]
      exact hx
theorem CI.wf_nth (h : CI w W g b i P G V last m sent) (k : Int) (hi : i < 1000) : (Lit.int .i64 (nthN m k)).wf = true := by
  refine Go.WalkArith.wf_i64 ?_
  have h0 := h.net.lo
  have h1 := h.la
  have : 0 ≤ nthN m k ∧ nthN m k ≤ 1000 := by
    unfold nthN
    split
    · omega
    · rename_i hn
      have hl : (k % (m.length : Int)).toNat < (m.map (·.1)).length := by
        rw [List.length_map]
        have := Int.emod_lt_of_pos k (b := (m.length : Int)) (by omega)
        have := Int.emod_nonneg k (b := (m.length : Int)) (by omega)
        omega
      have hrd := Go.Proofs.Ytcddajdjmlmpdaa.Pure.rd_lt (m.map (·.1)) (k % (m.length : Int)).toNat hl
      rw [Int.toNat_of_nonneg (Int.emod_nonneg k (by omega))] at hrd
      rw [hrd, List.getElem_map]
      have := h.net.top _ (List.getElem_mem (l := m) (n := (k % (m.length : Int)).toNat) (by rw [List.length_map] at hl; exact hl))
      omega
  omega
/-- One that was sent. -/
theorem CI.sends (h : CI w W g b i P G V last m sent) (hm : m.length < 40) {x : Gr} {V2 : Value} (hn : NetAt w W2 g b 40 (last + 1) (m ++ [(last + 1, x)])) (hr : Kd.R k41 41 W2 w.heap.size (fun _ => True) V2 (sent ++ [x])) : CI w W2 g b (i + 1) (P + 1) G V2 (last + 1) (m ++ [(last + 1, x)]) (sent ++ [x]) := by
  refine ⟨hn, ?_, by have := h.p0; omega, by have := h.g0; omega, by have := h.la; omega, ?_, hr, ?_, fun p hp => ?_⟩
  · have := h.len
    rw [List.length_append]
    simp
    omega
  · rw [List.length_append]
    simp
    omega
  · have := h.sl
    rw [List.length_append]
    simp
    omega
  · rcases List.mem_append.1 hp with hp | hp
    · exact List.mem_append.2 (.inl (h.mem p hp))
    · rw [List.mem_singleton.1 hp]
      simp
/-- One less. -/
theorem CI.less (h : CI w W g b i P G V last m sent) {id : Int} {x : Gr} (hx : atN m id = some x) (d : NetDid w W W2 g b 40 last (dropN m id)) : CI w W2 g b (i + 1) P (G + 1) V last (dropN m id) sent := by
  have hl : (dropN m id).length + 1 = m.length := by
    obtain ⟨j, hj⟩ := List.mem_iff_getElem?.1 (atN_some hx)
    have h1 := filter_erase (fun p : Int × Gr => p.1) m j _ (pw_nodup h.net.rise) hj
    have h2 := (List.getElem?_eq_some_iff.1 hj).1
    unfold dropN
    rw [← h1, List.length_eraseIdx_of_lt h2]
    omega
  refine ⟨d.net, ?_, by have := h.p0; omega, ?_, by have := h.la; omega, by have := h.m40; omega, rows_footN h.row d.kept (by decide), by have := h.sl; omega, fun p hp => h.mem p (List.mem_filter.1 hp).1⟩
  · have := h.len
    omega
  · have := h.len
    have := h.p0
    have := h.g0
    omega
end
theorem NetAt.grown {w W W2 : World} {g b : Nat} {room last : Int} {m : NMs} {base : Nat} {ok : Nat → Prop} {v : Value} {xs : List Gr} (h : NetAt w W g b room last m) (hr : Kd.R k41 41 W base ok v xs) (hg : W.grownBy W2 v.ownBlock) (hb : Below w.heap.size w W2) : NetAt w W2 g b room last m := by
  refine ⟨(hg.block g (blk_lt h.blk) ?_).trans h.blk, h.map.move (hg.block b h.map.lt ?_), h.ge, h.bge, hb, h.rise, h.top, h.lo⟩
  · intro e1
    obtain ⟨_, _, _, q, hq, cells, hc⟩ := (Kd.R_bound hr).1 g e1.symm
    rw [h.blk] at hc
    injection hc with hc
    injection hc with _ hc
    rw [← hc] at hq
    revert hq
    decide
  · intro e1
    obtain ⟨es, clock, hm⟩ := h.map
    obtain ⟨cells, q, hc⟩ := own_cells hr e1.symm
    rw [hm.blk] at hc
    cases hc
theorem infoGr : (Try.prog.info? 41).map (fun i => (i.zero, i.size, i.bytes)) = some (some (.agg #[.int .i64 0, .int .i64 0, .string ⟨#[]⟩]), 3, 32) := by kernel_rfl
def mosaiclaw21_NetCounts.f (l0 : List S50) : Option Bool := if ∀ x ∈ l0, -9223372036854775808 ≤ x.f1 ∧ x.f1 ≤ 9223372036854775807 then some true else none
set_option maxHeartbeats 8000000 in
set_option maxRecDepth 100000 in
theorem mosaiclaw21_NetCounts.calls (A0 : Option Addr) (c0 : Nat) (l0 : List S50) (r : Bool) (w : World) (hr0 : Kd.C k50 w A0 l0.length l0) (hc0 : l0.length ≤ c0) (h : mosaiclaw21_NetCounts.f l0 = some r) :
    Calls Try.prog 5 #[.slice A0 l0.length c0] w fun e w' => e = .returned (.bool r) ∧ Below w.heap.size w w' := by
  unfold mosaiclaw21_NetCounts.f at h
  split at h
  · rename_i hwf
    obtain rfl := Option.some.inj h
    clear h
    have HR := Aside0.mk hr0
    have HWF := Aside0.mk hwf
    clear hr0 hc0 hwf
    go_enter Try.func5, Try.ntmps5
    go_wp2_with fail
    refine (New_yes 40 _ (by decide) (by decide)).mono ?_
    rintro e W1 ⟨g, b, rfl, t⟩
    have T1 := Aside0.mk t
    clear t
    go_wp2_with fail
    refine (awake21 _).mono ?_
    rintro e W2 ⟨rfl, hb⟩
    have T2 := Aside0.mk (T1.out.below hb)
    clear hb T1
    go_wp2_with fail
    go_loopg [4, 5, 6, 7] 61 (fun gg v4 v5 v6 v7 wr => ∃ (i : Nat) (P G last : Int) (m : NMs) (sent : List Gr), v4 = .int .i64 P ∧ v5 = .int .i64 G ∧ v7 = .int .i64 i ∧ Aside0 (i + gg = 61) ∧ Aside0 (CI w wr g b i P G v6 last m sent))
    case atStart => exact ⟨0, 0, 0, 0, [], [], rfl, rfl, rfl, ⟨by omega⟩, ⟨T2.out, rfl, by omega, by omega, by omega, by simp, Kd.R_nil _ _ _ _ _, by simp, by simp⟩⟩
    case round =>
      clear T2
      obtain ⟨i, P, G, last, m, sent, rfl, rfl, rfl, HG, HC⟩ := hrel
      obtain ⟨A6, c6, hv6⟩ := Kd.R_slice HC.out.row
      subst hv6
      by_cases hlt : (i : Int) < (l0.length : Int)
      · by_cases h60 : (i : Int) < 60
        · obtain ⟨gg, rfl⟩ : ∃ z, gk = z + 1 := ⟨gk - 1, by have := HG.out; omega⟩
          have hil : i < l0.length := by omega
          obtain ⟨ad, hA, z0, z1, z2, z3, z4⟩ := at_T50 (Kd.C_below HR.out HC.out.net.bel) (i : Int) (by omega) hlt
          have hrd : rd_T50 l0 (i : Int) = l0[i] := by
            unfold rd_T50
            rw [Int.toNat_natCast, List.getD_eq_getElem?_getD, List.getElem?_eq_getElem hil]
            rfl
          have hq := HWF.out l0[i] (List.getElem_mem hil)
          rw [← hrd] at hq
          clear hrd
          rw [Int.toNat_natCast] at z0 z1 z2 z3 z4
          subst hA
          generalize rd_T50 l0 (i : Int) = q at z0 z1 z2 z3 z4 hq
          have HQ := Aside0.mk hq
          clear hq
          by_cases hs : (500 : Int) < (q.f2.f2.size : Int)
          · have hs1 : (500 < q.f2.f2.size) = True := eq_true (by omega)
            go_wp2_with fail
            go_roundg gg
            case measure => omega
            case rel => exact ⟨i + 1, P, G, last, m, sent, rfl, rfl, by go_num, ⟨by have := HG.out; omega⟩, ⟨(HC.out.below (below_alloc (Below.refl _ _) _)).next⟩⟩
          · have hs0 : ((500 : Int) < (q.f2.f2.size : Int)) = False := eq_false hs
            have hs1 : (500 < q.f2.f2.size) = False := eq_false (by omega)
            clear hs
            go_upto_if 43 with fail
            have HX := Aside0.mk (heap_alloc_new wr (.cells #[.int .i64 q.f0, .int .i64 q.f1, .int .i64 q.f2.f0, .int .i64 q.f2.f1, .string q.f2.f2] 50))
            have HC3 := Aside0.mk (HC.out.below (below_alloc (Below.refl _ _) (.cells #[.int .i64 q.f0, .int .i64 q.f1, .int .i64 q.f2.f0, .int .i64 q.f2.f1, .string q.f2.f2] 50)))
            generalize wr.alloc (.cells #[.int .i64 q.f0, .int .i64 q.f1, .int .i64 q.f2.f0, .int .i64 q.f2.f1, .string q.f2.f2] 50) = W3 at HX HC3 ⊢
            clear z0 z1 z2 z3 z4 HC
            have c0 := (show W3.cell? ⟨wr.heap.size, 0, none⟩ = some (.int .i64 q.f0) from blk_cell HX.out 0)
            have c1 := (show W3.cell? ⟨wr.heap.size, 1, none⟩ = some (.int .i64 q.f1) from blk_cell HX.out 1)
            have c2 := (show W3.cell? ⟨wr.heap.size, 2, none⟩ = some (.int .i64 q.f2.f0) from blk_cell HX.out 2)
            have c3 := (show W3.cell? ⟨wr.heap.size, 3, none⟩ = some (.int .i64 q.f2.f1) from blk_cell HX.out 3)
            have c4 := (show W3.cell? ⟨wr.heap.size, 4, none⟩ = some (.string q.f2.f2) from blk_cell HX.out 4)
            have hp := HC3.out.p0
            have hgg := HC3.out.g0
            have hla := HC3.out.la
            have hP1 : IntKind.i64.wrap (P + 1) = P + 1 := IntWalk.i64_in _ (by omega)
            have hG1 : IntKind.i64.wrap (G + 1) = G + 1 := IntWalk.i64_in _ (by omega)
            by_cases k0 : q.f0 = 0
            · have e0 : (q.f0 == 0) = true := by simp [k0]
              clear k0
              by_cases hgd : goodG q.f2 ∧ (m.length : Int) < 40
              · have hS := HC3.out.net.Send_any (by omega) q.f2
                unfold putC putL putM at hS
                rw [if_pos hgd.1, if_pos hgd.1, if_pos hgd.1, if_pos hgd.1, if_neg (by omega), if_neg (by omega), if_neg (by omega)] at hS
                have HS := Aside0.mk hS
                have hm40 : m.length < 40 := by have := hgd.2; omega
                clear hS hgd
                go_wp2_with fail
                refine HS.out.mono ?_
                rintro e W4 ⟨he, d⟩
                have he2 : e = .returned (.tuple #[.int .i64 (last + 1), .int .i64 0]) := he
                subst he2
                have HX4 := Aside0.mk (blk_kept HX.out d.kept (footN_not HX.out (by decide)))
                have HR4 := Aside0.mk (rows_footN HC3.out.row d.kept (by decide))
                have HN4 := Aside0.mk d.net
                have d0 := (show W4.cell? ⟨wr.heap.size, 0, none⟩ = some (.int .i64 q.f0) from blk_cell HX4.out 0)
                have d2 := (show W4.cell? ⟨wr.heap.size, 2, none⟩ = some (.int .i64 q.f2.f0) from blk_cell HX4.out 2)
                have d3 := (show W4.cell? ⟨wr.heap.size, 3, none⟩ = some (.int .i64 q.f2.f1) from blk_cell HX4.out 3)
                have d4 := (show W4.cell? ⟨wr.heap.size, 4, none⟩ = some (.string q.f2.f2) from blk_cell HX4.out 4)
                clear d he HS c0 c1 c2 c3 c4
                have hle : m.length ≤ i := by have := HC3.out.len; omega
                have hsub : IntKind.i64.wrap ((P + 1) - G) = (((m ++ [(last + 1, q.f2)])).length : Int) := by
                  have := HC3.out.len
                  have := HC3.out.m40
                  rw [List.length_append]
                  simp
                  rw [IntWalk.i64_in _ (by omega)]
                  omega
                have h40 : ((40 : Int) < (((m ++ [(last + 1, q.f2)])).length : Int)) = False := eq_false (by rw [List.length_append]; simp; omega)
                have h40' : (40 < ((m ++ [(last + 1, q.f2)])).length) = False := eq_false (by rw [List.length_append]; simp; omega)
                go_wp2_with (first
                  | ((with_reducible refine gate_builtin (b := .append) (xs := #[.tmp 54, .tmp 57]) rfl ?_); at_builtin; refine Kd.R_append k41 (w0 := W4) w.heap.size rfl (.tmp 54) (.tmp 57) 48 41 (.agg #[.int .i64 0, .int .i64 0, .string ⟨#[]⟩]) 32 rfl Try.underlying48 infoGr rfl (by decide) (by omega) _ sent q.f2 [.int .i64 q.f2.f0, .int .i64 q.f2.f1, .string q.f2.f2] (fun _ => True) (fun _ => False) rfl rfl ?aP (fun _ hk => hk.elim) ?aF ?aO ?aB ?aS ?aL ?_; (case aP => exact k41_mkM _ _ _ q.f2); (case aB => exact Below.refl _ _); (case aF => exact fun _ _ => trivial); (case aO => exact HR4.out); (case aS => exact HN4.out.bel.size); (case aL => have := HC3.out.sl; omega); intro v13 w7 ho hb hg hat; have HC5 := Aside0.mk (HC3.out.sends hm40 (HN4.out.grown HR4.out hg (HN4.out.bel.trans hb)) ho); clear ho hb hg hat)
                  | (go_at_call 25; refine HC5.out.net.Len_any.mono ?_; rintro e W9 ⟨rfl, rfl⟩))
                go_roundg gg
                case measure => omega
                case rel => exact ⟨i + 1, P + 1, G, last + 1, m ++ [(last + 1, q.f2)], sent ++ [q.f2], rfl, rfl, by go_num, ⟨by have := HG.out; omega⟩, HC5⟩
              · obtain ⟨ec, hec, hS⟩ : ∃ ec : Int, (ec == 0) = false ∧ Calls Try.prog 20 #[.pointer (some ⟨g, 0, none⟩), .agg #[.int .i64 q.f2.f0, .int .i64 q.f2.f1, .string q.f2.f2]] W3 fun e W2 => e = .returned (.tuple #[.int .i64 0, .int .i64 ec]) ∧ NetDid w W3 W2 g b 40 last m := by
                  have hS := HC3.out.net.Send_any (by omega) q.f2
                  by_cases hg1 : goodG q.f2
                  · have hf : (40 : Int) ≤ (m.length : Int) := by
                      by_cases hx : (m.length : Int) < 40
                      · exact absurd ⟨hg1, hx⟩ hgd
                      · omega
                    unfold putC putL putM at hS
                    rw [if_pos hg1, if_pos hg1, if_pos hg1, if_pos hg1, if_pos hf, if_pos hf, if_pos hf] at hS
                    exact ⟨6, by decide, hS⟩
                  · rw [if_neg hg1, if_neg hg1, if_neg hg1, if_neg hg1] at hS
                    exact ⟨1, by decide, hS⟩
                have HS := Aside0.mk hS
                clear hS hgd
                go_wp2_with fail
                refine HS.out.mono ?_
                rintro e W4 ⟨he, d⟩
                subst he
                have HC5 := Aside0.mk (HC3.out.stay d)
                clear d HS
                have hsub : IntKind.i64.wrap (P - G) = ((m).length : Int) := by
                  have := HC5.out.len
                  rw [← this]
                  exact IntWalk.i64_in _ (by have := HC5.out.m40; omega)
                have h40 : ((40 : Int) < ((m).length : Int)) = False := eq_false (by have := HC5.out.m40; omega)
                have h40' : (40 < (m).length) = False := eq_false (by have := HC5.out.m40; omega)
                have HLN := Aside0.mk HC5.out.net.Len_any
                go_wp2_with (go_at_call 25; refine HLN.out.mono ?_; rintro e W9 ⟨rfl, rfl⟩)
                go_roundg gg
                case measure => omega
                case rel => exact ⟨i + 1, P, G, last, m, sent, rfl, rfl, by go_num, ⟨by have := HG.out; omega⟩, HC5⟩
            by_cases k1 : q.f0 = 1
            · have e0 : (q.f0 == 0) = false := by simp [k0]
              have e1 : (q.f0 == 1) = true := by simp [k1]
              have e4 : (q.f0 == 4) = false := by simp [k1]
              have HI := Aside0.mk (Go.WalkArith.wf_i64 (show -9223372036854775808 ≤ q.f1 ∧ q.f1 ≤ 9223372036854775807 by have := HQ.out; omega))
              clear k0 k1
              have HC4 := HC3
              have HT := Aside0.mk (HC4.out.net.Take_any (q.f1) HI.out)
              match hx : atN m (q.f1) with
              | none =>
                rw [hx, dropN_none hx] at HT
                clear hx
                go_wp2_with fail
                refine HT.out.mono ?_
                rintro e W5 ⟨he, d⟩
                have he2 : e = .returned (.tuple #[.agg #[.int .i64 0, .int .i64 0, .string ⟨#[]⟩], .int .i64 4]) := he
                subst he2
                have HC5 := Aside0.mk ((HC4.out.stay d).below (below_alloc (Below.refl _ _) (.cells #[.int .i64 0, .int .i64 0, .string ⟨#[]⟩] 41)))
                clear d he HT
                have hsub : IntKind.i64.wrap (P - G) = ((m).length : Int) := by
                  have := HC5.out.len
                  rw [← this]
                  exact IntWalk.i64_in _ (by have := HC5.out.m40; omega)
                have h40 : ((40 : Int) < ((m).length : Int)) = False := eq_false (by have := HC5.out.m40; omega)
                have h40' : (40 < (m).length) = False := eq_false (by have := HC5.out.m40; omega)
                have HLN := Aside0.mk HC5.out.net.Len_any
                go_wp2_with (go_at_call 25; refine HLN.out.mono ?_; rintro e W9 ⟨rfl, rfl⟩)
                go_roundg gg
                case measure => omega
                case rel => exact ⟨i + 1, P, G, last, m, sent, rfl, rfl, by go_num, ⟨by have := HG.out; omega⟩, HC5⟩
              | some x =>
                rw [hx] at HT
                go_wp2_with fail
                refine HT.out.mono ?_
                rintro e W5 ⟨he, d⟩
                have he2 : e = .returned (.tuple #[.agg #[.int .i64 x.f0, .int .i64 x.f1, .string x.f2], .int .i64 0]) := he
                subst he2
                have HC5 := Aside0.mk ((HC4.out.less hx d).below (below_alloc (Below.refl _ _) (.cells #[.int .i64 x.f0, .int .i64 x.f1, .string x.f2] 41)))
                have HAM := Aside0.mk (among_calls HC5.out.row (by have := HC5.out.sl; omega) x (HC4.out.mem _ (atN_some hx)))
                clear d he HT hx
                have hsub : IntKind.i64.wrap (P - (G + 1)) = (((dropN m (q.f1))).length : Int) := by
                  have := HC5.out.len
                  rw [← this]
                  exact IntWalk.i64_in _ (by have := HC5.out.m40; omega)
                have h40 : ((40 : Int) < (((dropN m (q.f1))).length : Int)) = False := eq_false (by have := HC5.out.m40; omega)
                have h40' : (40 < ((dropN m (q.f1))).length) = False := eq_false (by have := HC5.out.m40; omega)
                go_wp2_with fail
                refine HAM.out.mono ?_
                rintro e W6 ⟨rfl, hb⟩
                have HC6 := Aside0.mk (HC5.out.below hb)
                clear hb HAM HC5
                have HLN := Aside0.mk HC6.out.net.Len_any
                go_wp2_with (go_at_call 25; refine HLN.out.mono ?_; rintro e W9 ⟨rfl, rfl⟩)
                go_roundg gg
                case measure => omega
                case rel => exact ⟨i + 1, P, (G + 1), last, (dropN m (q.f1)), sent, rfl, rfl, by go_num, ⟨by have := HG.out; omega⟩, HC6⟩
            by_cases k4 : q.f0 = 4
            · have e0 : (q.f0 == 0) = false := by simp [k0]
              have e1 : (q.f0 == 1) = false := by simp [k1]
              have e4 : (q.f0 == 4) = true := by simp [k4]
              have HNT := Aside0.mk (HC3.out.net.Nth_any (by have := HC3.out.m40; omega) q.f1 (by have := HQ.out; omega))
              have HI := Aside0.mk (HC3.out.wf_nth q.f1 (by omega))
              clear k0 k1 k4
              go_wp2_with fail
              refine HNT.out.mono ?_
              rintro e W4 ⟨rfl, hb⟩
              have HC4 := Aside0.mk (HC3.out.below hb)
              clear hb HNT
              have HT := Aside0.mk (HC4.out.net.Take_any (nthN m q.f1) HI.out)
              match hx : atN m (nthN m q.f1) with
              | none =>
                rw [hx, dropN_none hx] at HT
                clear hx
                go_wp2_with fail
                refine HT.out.mono ?_
                rintro e W5 ⟨he, d⟩
                have he2 : e = .returned (.tuple #[.agg #[.int .i64 0, .int .i64 0, .string ⟨#[]⟩], .int .i64 4]) := he
                subst he2
                have HC5 := Aside0.mk ((HC4.out.stay d).below (below_alloc (Below.refl _ _) (.cells #[.int .i64 0, .int .i64 0, .string ⟨#[]⟩] 41)))
                clear d he HT
                have hsub : IntKind.i64.wrap (P - G) = ((m).length : Int) := by
                  have := HC5.out.len
                  rw [← this]
                  exact IntWalk.i64_in _ (by have := HC5.out.m40; omega)
                have h40 : ((40 : Int) < ((m).length : Int)) = False := eq_false (by have := HC5.out.m40; omega)
                have h40' : (40 < (m).length) = False := eq_false (by have := HC5.out.m40; omega)
                have HLN := Aside0.mk HC5.out.net.Len_any
                go_wp2_with (go_at_call 25; refine HLN.out.mono ?_; rintro e W9 ⟨rfl, rfl⟩)
                go_roundg gg
                case measure => omega
                case rel => exact ⟨i + 1, P, G, last, m, sent, rfl, rfl, by go_num, ⟨by have := HG.out; omega⟩, HC5⟩
              | some x =>
                rw [hx] at HT
                go_wp2_with fail
                refine HT.out.mono ?_
                rintro e W5 ⟨he, d⟩
                have he2 : e = .returned (.tuple #[.agg #[.int .i64 x.f0, .int .i64 x.f1, .string x.f2], .int .i64 0]) := he
                subst he2
                have HC5 := Aside0.mk ((HC4.out.less hx d).below (below_alloc (Below.refl _ _) (.cells #[.int .i64 x.f0, .int .i64 x.f1, .string x.f2] 41)))
                have HAM := Aside0.mk (among_calls HC5.out.row (by have := HC5.out.sl; omega) x (HC4.out.mem _ (atN_some hx)))
                clear d he HT hx
                have hsub : IntKind.i64.wrap (P - (G + 1)) = (((dropN m (nthN m q.f1))).length : Int) := by
                  have := HC5.out.len
                  rw [← this]
                  exact IntWalk.i64_in _ (by have := HC5.out.m40; omega)
                have h40 : ((40 : Int) < (((dropN m (nthN m q.f1))).length : Int)) = False := eq_false (by have := HC5.out.m40; omega)
                have h40' : (40 < ((dropN m (nthN m q.f1))).length) = False := eq_false (by have := HC5.out.m40; omega)
                go_wp2_with fail
                refine HAM.out.mono ?_
                rintro e W6 ⟨rfl, hb⟩
                have HC6 := Aside0.mk (HC5.out.below hb)
                clear hb HAM HC5
                have HLN := Aside0.mk HC6.out.net.Len_any
                go_wp2_with (go_at_call 25; refine HLN.out.mono ?_; rintro e W9 ⟨rfl, rfl⟩)
                go_roundg gg
                case measure => omega
                case rel => exact ⟨i + 1, P, (G + 1), last, (dropN m (nthN m q.f1)), sent, rfl, rfl, by go_num, ⟨by have := HG.out; omega⟩, HC6⟩
            by_cases k2 : q.f0 = 2
            · have e0 : (q.f0 == 0) = false := by simp [k0]
              have e1 : (q.f0 == 1) = false := by simp [k1]
              have e4 : (q.f0 == 4) = false := by simp [k4]
              have e2 : (q.f0 == 2) = true := by simp [k2]
              have HL := Aside0.mk (HC3.out.net.Lose_any q.f1 (Go.WalkArith.wf_i64 (by have := HQ.out; omega)))
              clear k0 k1 k4 k2
              match hx : atN m q.f1 with
              | none =>
                rw [hx, dropN_none hx] at HL
                go_wp2_with fail
                refine HL.out.mono ?_
                rintro e W4 ⟨he, d⟩
                have he2 : e = .returned (.int .i64 4) := he
                subst he2
                have HC5 := Aside0.mk (HC3.out.stay d)
                clear d he HL
                have hsub : IntKind.i64.wrap (P - G) = ((m).length : Int) := by
                  have := HC5.out.len
                  rw [← this]
                  exact IntWalk.i64_in _ (by have := HC5.out.m40; omega)
                have h40 : ((40 : Int) < ((m).length : Int)) = False := eq_false (by have := HC5.out.m40; omega)
                have h40' : (40 < (m).length) = False := eq_false (by have := HC5.out.m40; omega)
                have HLN := Aside0.mk HC5.out.net.Len_any
                go_wp2_with (go_at_call 25; refine HLN.out.mono ?_; rintro e W9 ⟨rfl, rfl⟩)
                go_roundg gg
                case measure => omega
                case rel => exact ⟨i + 1, P, G, last, m, sent, rfl, rfl, by go_num, ⟨by have := HG.out; omega⟩, HC5⟩
              | some x =>
                rw [hx] at HL
                go_wp2_with fail
                refine HL.out.mono ?_
                rintro e W4 ⟨he, d⟩
                have he2 : e = .returned (.int .i64 0) := he
                subst he2
                have HC5 := Aside0.mk (HC3.out.less hx d)
                clear d he HL
                have hsub : IntKind.i64.wrap (P - (G + 1)) = (((dropN m q.f1)).length : Int) := by
                  have := HC5.out.len
                  rw [← this]
                  exact IntWalk.i64_in _ (by have := HC5.out.m40; omega)
                have h40 : ((40 : Int) < (((dropN m q.f1)).length : Int)) = False := eq_false (by have := HC5.out.m40; omega)
                have h40' : (40 < ((dropN m q.f1)).length) = False := eq_false (by have := HC5.out.m40; omega)
                have HLN := Aside0.mk HC5.out.net.Len_any
                go_wp2_with (go_at_call 25; refine HLN.out.mono ?_; rintro e W9 ⟨rfl, rfl⟩)
                go_roundg gg
                case measure => omega
                case rel => exact ⟨i + 1, P, (G + 1), last, (dropN m q.f1), sent, rfl, rfl, by go_num, ⟨by have := HG.out; omega⟩, HC5⟩
            by_cases k3 : q.f0 = 3
            · have e0 : (q.f0 == 0) = false := by simp [k0]
              have e1 : (q.f0 == 1) = false := by simp [k1]
              have e4 : (q.f0 == 4) = false := by simp [k4]
              have e2 : (q.f0 == 2) = false := by simp [k2]
              have e3 : (q.f0 == 3) = true := by simp [k3]
              have e5 : (q.f0 == 5) = false := by simp [k3]
              have HNT := Aside0.mk (HC3.out.net.Nth_any (by have := HC3.out.m40; omega) q.f1 (by have := HQ.out; omega))
              have HI := Aside0.mk (HC3.out.wf_nth q.f1 (by omega))
              clear k0 k1 k4 k2 k3
              go_wp2_with fail
              refine HNT.out.mono ?_
              rintro e W4 ⟨rfl, hb⟩
              have HC4 := Aside0.mk (HC3.out.below hb)
              clear hb HNT
              have hT := HC4.out.net.Twice_any (by omega) (nthN m q.f1) HI.out
              match hx : atN m (nthN m q.f1) with
              | none =>
                rw [hx] at hT
                have HT := Aside0.mk hT
                clear hx hT
                go_wp2_with fail
                refine HT.out.mono ?_
                rintro e W5 ⟨he, d⟩
                have he2 : e = .returned (.tuple #[.int .i64 0, .int .i64 4]) := he
                subst he2
                have HC5 := Aside0.mk (HC4.out.stay d)
                clear d he HT
                have hsub : IntKind.i64.wrap (P - G) = ((m).length : Int) := by
                  have := HC5.out.len
                  rw [← this]
                  exact IntWalk.i64_in _ (by have := HC5.out.m40; omega)
                have h40 : ((40 : Int) < ((m).length : Int)) = False := eq_false (by have := HC5.out.m40; omega)
                have h40' : (40 < (m).length) = False := eq_false (by have := HC5.out.m40; omega)
                have HLN := Aside0.mk HC5.out.net.Len_any
                go_wp2_with (go_at_call 25; refine HLN.out.mono ?_; rintro e W9 ⟨rfl, rfl⟩)
                go_roundg gg
                case measure => omega
                case rel => exact ⟨i + 1, P, G, last, m, sent, rfl, rfl, by go_num, ⟨by have := HG.out; omega⟩, HC5⟩
              | some x =>
                rw [hx] at hT
                unfold putC putL putM at hT
                by_cases hf : (40 : Int) ≤ (m.length : Int)
                · simp only [if_pos hf] at hT
                  have HT := Aside0.mk hT
                  clear hx hT
                  go_wp2_with fail
                  refine HT.out.mono ?_
                  rintro e W5 ⟨he, d⟩
                  have he2 : e = .returned (.tuple #[.int .i64 0, .int .i64 6]) := he
                  subst he2
                  have HC5 := Aside0.mk (HC4.out.stay d)
                  clear d he HT hf
                  have hsub : IntKind.i64.wrap (P - G) = ((m).length : Int) := by
                    have := HC5.out.len
                    rw [← this]
                    exact IntWalk.i64_in _ (by have := HC5.out.m40; omega)
                  have h40 : ((40 : Int) < ((m).length : Int)) = False := eq_false (by have := HC5.out.m40; omega)
                  have h40' : (40 < (m).length) = False := eq_false (by have := HC5.out.m40; omega)
                  have HLN := Aside0.mk HC5.out.net.Len_any
                  go_wp2_with (go_at_call 25; refine HLN.out.mono ?_; rintro e W9 ⟨rfl, rfl⟩)
                  go_roundg gg
                  case measure => omega
                  case rel => exact ⟨i + 1, P, G, last, m, sent, rfl, rfl, by go_num, ⟨by have := HG.out; omega⟩, HC5⟩
                · simp only [if_neg hf] at hT
                  have HT := Aside0.mk hT
                  have HME := Aside0.mk (HC4.out.mem _ (atN_some hx))
                  have hm40 : m.length < 40 := by omega
                  clear hx hT hf
                  go_wp2_with fail
                  refine HT.out.mono ?_
                  rintro e W5 ⟨he, d⟩
                  have he2 : e = .returned (.tuple #[.int .i64 (last + 1), .int .i64 0]) := he
                  subst he2
                  have HC5 := Aside0.mk (HC4.out.more HME.out hm40 d)
                  clear d he HT
                  have hsub : IntKind.i64.wrap ((P + 1) - G) = (((m ++ [(last + 1, x)])).length : Int) := by
                    have := HC5.out.len
                    rw [← this]
                    exact IntWalk.i64_in _ (by have := HC5.out.m40; omega)
                  have h40 : ((40 : Int) < (((m ++ [(last + 1, x)])).length : Int)) = False := eq_false (by have := HC5.out.m40; omega)
                  have h40' : (40 < ((m ++ [(last + 1, x)])).length) = False := eq_false (by have := HC5.out.m40; omega)
                  have HLN := Aside0.mk HC5.out.net.Len_any
                  go_wp2_with (go_at_call 25; refine HLN.out.mono ?_; rintro e W9 ⟨rfl, rfl⟩)
                  go_roundg gg
                  case measure => omega
                  case rel => exact ⟨i + 1, (P + 1), G, (last + 1), (m ++ [(last + 1, x)]), sent, rfl, rfl, by go_num, ⟨by have := HG.out; omega⟩, HC5⟩
            by_cases k5 : q.f0 = 5
            · have e0 : (q.f0 == 0) = false := by simp [k0]
              have e1 : (q.f0 == 1) = false := by simp [k1]
              have e4 : (q.f0 == 4) = false := by simp [k4]
              have e2 : (q.f0 == 2) = false := by simp [k2]
              have e3 : (q.f0 == 3) = false := by simp [k3]
              have e5 : (q.f0 == 5) = true := by simp [k5]
              have HNT := Aside0.mk (HC3.out.net.Nth_any (by have := HC3.out.m40; omega) q.f1 (by have := HQ.out; omega))
              have HI := Aside0.mk (HC3.out.wf_nth q.f1 (by omega))
              clear k0 k1 k4 k2 k3 k5
              go_wp2_with fail
              refine HNT.out.mono ?_
              rintro e W4 ⟨rfl, hb⟩
              have HC4 := Aside0.mk (HC3.out.below hb)
              clear hb HNT
              have hT := HC4.out.net.Twice_any (by omega) (nthN m q.f1) HI.out
              match hx : atN m (nthN m q.f1) with
              | none =>
                rw [hx] at hT
                have HT := Aside0.mk hT
                clear hx hT
                go_wp2_with fail
                refine HT.out.mono ?_
                rintro e W5 ⟨he, d⟩
                have he2 : e = .returned (.tuple #[.int .i64 0, .int .i64 4]) := he
                subst he2
                have HC5 := Aside0.mk (HC4.out.stay d)
                clear d he HT
                have hsub : IntKind.i64.wrap (P - G) = ((m).length : Int) := by
                  have := HC5.out.len
                  rw [← this]
                  exact IntWalk.i64_in _ (by have := HC5.out.m40; omega)
                have h40 : ((40 : Int) < ((m).length : Int)) = False := eq_false (by have := HC5.out.m40; omega)
                have h40' : (40 < (m).length) = False := eq_false (by have := HC5.out.m40; omega)
                have HLN := Aside0.mk HC5.out.net.Len_any
                go_wp2_with (go_at_call 25; refine HLN.out.mono ?_; rintro e W9 ⟨rfl, rfl⟩)
                go_roundg gg
                case measure => omega
                case rel => exact ⟨i + 1, P, G, last, m, sent, rfl, rfl, by go_num, ⟨by have := HG.out; omega⟩, HC5⟩
              | some x =>
                rw [hx] at hT
                unfold putC putL putM at hT
                by_cases hf : (40 : Int) ≤ (m.length : Int)
                · simp only [if_pos hf] at hT
                  have HT := Aside0.mk hT
                  clear hx hT
                  go_wp2_with fail
                  refine HT.out.mono ?_
                  rintro e W5 ⟨he, d⟩
                  have he2 : e = .returned (.tuple #[.int .i64 0, .int .i64 6]) := he
                  subst he2
                  have HC5 := Aside0.mk (HC4.out.stay d)
                  clear d he HT hf
                  have hsub : IntKind.i64.wrap (P - G) = ((m).length : Int) := by
                    have := HC5.out.len
                    rw [← this]
                    exact IntWalk.i64_in _ (by have := HC5.out.m40; omega)
                  have h40 : ((40 : Int) < ((m).length : Int)) = False := eq_false (by have := HC5.out.m40; omega)
                  have h40' : (40 < (m).length) = False := eq_false (by have := HC5.out.m40; omega)
                  have HLN := Aside0.mk HC5.out.net.Len_any
                  go_wp2_with (go_at_call 25; refine HLN.out.mono ?_; rintro e W9 ⟨rfl, rfl⟩)
                  go_roundg gg
                  case measure => omega
                  case rel => exact ⟨i + 1, P, G, last, m, sent, rfl, rfl, by go_num, ⟨by have := HG.out; omega⟩, HC5⟩
                · simp only [if_neg hf] at hT
                  have HT := Aside0.mk hT
                  have HME := Aside0.mk (HC4.out.mem _ (atN_some hx))
                  have hm40 : m.length < 40 := by omega
                  clear hx hT hf
                  go_wp2_with fail
                  refine HT.out.mono ?_
                  rintro e W5 ⟨he, d⟩
                  have he2 : e = .returned (.tuple #[.int .i64 (last + 1), .int .i64 0]) := he
                  subst he2
                  have HC5 := Aside0.mk (HC4.out.more HME.out hm40 d)
                  clear d he HT
                  have hsub : IntKind.i64.wrap ((P + 1) - G) = (((m ++ [(last + 1, x)])).length : Int) := by
                    have := HC5.out.len
                    rw [← this]
                    exact IntWalk.i64_in _ (by have := HC5.out.m40; omega)
                  have h40 : ((40 : Int) < (((m ++ [(last + 1, x)])).length : Int)) = False := eq_false (by have := HC5.out.m40; omega)
                  have h40' : (40 < ((m ++ [(last + 1, x)])).length) = False := eq_false (by have := HC5.out.m40; omega)
                  have HLN := Aside0.mk HC5.out.net.Len_any
                  go_wp2_with (go_at_call 25; refine HLN.out.mono ?_; rintro e W9 ⟨rfl, rfl⟩)
                  go_roundg gg
                  case measure => omega
                  case rel => exact ⟨i + 1, (P + 1), G, (last + 1), (m ++ [(last + 1, x)]), sent, rfl, rfl, by go_num, ⟨by have := HG.out; omega⟩, HC5⟩
            have e0 : (q.f0 == 0) = false := by simp [k0]
            have e1 : (q.f0 == 1) = false := by simp [k1]
            have e4 : (q.f0 == 4) = false := by simp [k4]
            have e2 : (q.f0 == 2) = false := by simp [k2]
            have e3 : (q.f0 == 3) = false := by simp [k3]
            have e5 : (q.f0 == 5) = false := by simp [k5]
            clear k0 k1 k2 k3 k4 k5
            have HC5 := Aside0.mk HC3.out.next
            have hsub : IntKind.i64.wrap (P - G) = ((m).length : Int) := by
              have := HC5.out.len
              rw [← this]
              exact IntWalk.i64_in _ (by have := HC5.out.m40; omega)
            have h40 : ((40 : Int) < ((m).length : Int)) = False := eq_false (by have := HC5.out.m40; omega)
            have h40' : (40 < (m).length) = False := eq_false (by have := HC5.out.m40; omega)
            have HLN := Aside0.mk HC5.out.net.Len_any
            go_wp2_with (go_at_call 25; refine HLN.out.mono ?_; rintro e W9 ⟨rfl, rfl⟩)
            go_roundg gg
            case measure => omega
            case rel => exact ⟨i + 1, P, G, last, m, sent, rfl, rfl, by go_num, ⟨by have := HG.out; omega⟩, HC5⟩
        · go_wp2
          go_ret
          exact ⟨rfl, HC.out.net.bel⟩
      · go_wp2
        go_ret
        exact ⟨rfl, HC.out.net.bel⟩
  · cases h
end Go.Proofs.Ytcddajdjmlmpdaa.Print
