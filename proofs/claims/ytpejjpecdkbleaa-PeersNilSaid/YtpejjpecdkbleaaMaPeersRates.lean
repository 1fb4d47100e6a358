/- The law PeersRates, by hand. -/
-- MANUAL mosaic/mosaiclaw18.PeersRates making plain
import Derived.Test.YtpejjpecdkbleaaPrK
import Derived.Test.YtpejjpecdkbleaaMaPeers1
import Derived.Test.YtpejjpecdkbleaaMaPeers11
import Derived.Test.YtpejjpecdkbleaaMaPeers12
import Derived.Test.YtpejjpecdkbleaaMaPeers4
import Derived.Test.YtpejjpecdkbleaaMaPeers6
import Derived.Test.YtpejjpecdkbleaaMaPeers7
import Derived.Test.YtpejjpecdkbleaaMaPeers12
import Derived.IntWalk
import Derived.BigQuiet
import Derived.Deep.QuietTactic
import Derived.Deep.RegionLaw
import Derived.RegionTactic
import Derived.Outline
import Derived.Laws.CopyOwn
namespace Go.Proofs.Ytpejjpecdkbleaa.Print
open Go.RowKit Go.Proofs.YtpejjpecdkbleaaW.PrintWords Go.Proofs.YtpejjpecdkbleaaW.PrintLast Go.Proofs.YtpejjpecdkbleaaW.PrintMore
attribute [local go_sem] max2_int min2_int max_two min_two max_three min_three max_four min_four
set_option linter.unusedVariables false
set_option linter.unusedSimpArgs false

/-- A whole struct is stored into a block of its size: what lies below it stays. -/
theorem store_new {ops : Array Oper} {rest : List Oper} {o : Oper} {a : Act} {w : World} {Q : Exit → Act → World → Prop} {P : Program} (hgd : o.guard = none) (ty : TypeId) (x y : Operand) (ho : o.op = .store ty x y)
    (g : Nat) (cells : Array Value) (hx : a.eval x = .pointer (some ⟨g, 0, none⟩)) (hy : a.eval y = .agg cells)
    (t : TypeId) (old : Array Value) (hg : w.heap[g]? = some (.cells old t (0, 0))) (hi : (P.info? ty).map (·.size) = some cells.size)
    (hold : old.size = cells.size) (h1 : cells.all (·.oneCell') = true)
    (h : ∀ W', W'.heap[g]? = some (.cells cells t (0, 0)) → Below g w W' → wpList P ops Q rest (a.put o.dst undef) W') : wpList P ops Q (o :: rest) a w :=
  wpList_store_row hgd ty x y ho g cells hx hy t old hg hi hold h1 (h _ (setRow_heap _ _ _ _ _ _ hg) (below_setRow (Below.refl _ _) (Nat.le_refl _) _))
theorem withC_some {m : PM} {n : Int} {p : Pr} (h : atM m n = some p) : withC m n = 0 := by unfold withC; rw [h]
theorem setM_some {m : PM} {n : Int} {p : Pr} (h : atM m n = some p) (f : Pr → Pr) : setM m n f = m.set n.toNat (some (f p)) := by unfold setM; rw [h]
/-- The table of PeersRates: peer 2 alone. -/
def ratesM (p : Pr) : PM := aw0.set 2 (some p)
theorem ratesM_at (p : Pr) : atM (ratesM p) 2 = some p := rfl
theorem ratesM_set (p : Pr) (f : Pr → Pr) : setM (ratesM p) 2 f = ratesM (f p) := by rw [setM_some (ratesM_at p)]; rfl
theorem ratesM_roll (p : Pr) : (ratesM p).map (Option.map roll1) = ratesM (roll1 p) := rfl
def mosaiclaw18_PeersRates.f (l0 : List Int) (l1 : List Bool) : Option Bool := some true
set_option maxHeartbeats 4000000 in
set_option maxRecDepth 100000 in
theorem mosaiclaw18_PeersRates.calls (A0 : Option Addr) (c0 : Nat) (l0 : List Int) (A1 : Option Addr) (c1 : Nat) (l1 : List Bool) (r : Bool) (w : World) (hr0 : Kd.C (Kd.int .i64) w A0 l0.length l0) (hc0 : l0.length ≤ c0) (hr1 : Kd.C Kd.bool w A1 l1.length l1) (hc1 : l1.length ≤ c1) (h : mosaiclaw18_PeersRates.f l0 l1 = some r) :
    Calls Try.prog 3 #[.slice A0 l0.length c0, .slice A1 l1.length c1] w fun e w' => e = .returned (.bool r) ∧ Below w.heap.size w w' := by
  obtain rfl := Option.some.inj (show some true = some r from h)
  clear h
  have HR0 := Aside0.mk hr0
  have HR1 := Aside0.mk hr1
  clear hr0 hr1 hc0 hc1
  have a1 : meetC 3 aw0 noB 2 1 0 0 = 0 ∧ meetM 3 aw0 noB 2 1 0 0 = ratesM (met 2 1 0 0) := ⟨rfl, rfl⟩
  have A1' := Aside0.mk a1
  clear a1
  go_enter Try.func3, Try.ntmps3
  go_wp2_with fail
  refine (PT_new 3 9 w (by decide)).mono ?_
  rintro e W1 ⟨g, rfl, t⟩
  have T1 := Aside0.mk (show PT w W1 g 3 9 aw0 noB from t)
  clear t
  go_wp2_with fail
  refine (awake18 _).mono ?_
  rintro e W2 ⟨rfl, hb⟩
  have T2 := Aside0.mk (T1.out.below hb)
  clear hb T1
  go_wp2_with fail
  refine (T2.out.Meet_any 2 1 0 0).mono ?_
  rintro e W3 ⟨he, d⟩
  rw [A1'.out.1] at he
  rw [A1'.out.2] at d
  subst he
  have T3 := Aside0.mk d.pt
  clear d T2
  go_wp2_with fail
  go_loopg [6, 7, 8] 41 (fun gg v6 v7 v8 wr => ∃ (i : Nat) (p : Pr), v8 = .int .i64 i ∧ v6 = .int .i64 p.f7 ∧ v7 = .int .i64 p.f8 ∧ Aside0 (i + gg = 41) ∧ Aside0 (PT w wr g 3 9 (ratesM p) noB))
  case atStart => exact ⟨0, _, rfl, rfl, rfl, ⟨rfl⟩, T3⟩
  case round =>
    clear T3
    obtain ⟨i, p, rfl, rfl, rfl, HG, HT⟩ := hrel
    by_cases hlt : (i : Int) < (l0.length : Int)
    · by_cases h40 : (i : Int) < 40
      · obtain ⟨gg, rfl⟩ : ∃ m, gk = m + 1 := ⟨gk - 1, by have := HG.out; omega⟩
        obtain ⟨ad, hA, hx⟩ := Kd.at_int HR0.out (i : Int) (by omega) hlt
        rw [Int.toNat_natCast] at hx
        subst hA
        generalize rd l0 (i : Int) = n at hx
        have HX := Aside0.mk hx
        clear hx
        have hx : wr.cell? (ad.add i) = some (.int .i64 n) := (HT.out.bel.cell (World.block_lt_of_cell? w _ HX.out)).trans HX.out
        go_wp2_with fail
        refine (HT.out.Count_any 2 n).mono ?_
        rw [withC_some (ratesM_at p), ratesM_set]
        rintro e W4 ⟨he, d⟩
        by_cases ht : tickB n = true
        · rw [if_pos ht] at he
          rw [if_pos ht] at d
          subst he
          have HT4 := Aside0.mk d.pt
          have ht2 : 0 ≤ n ∧ n ≤ 1099511627776 := of_decide_eq_true ht
          obtain ⟨ht3, ht4⟩ := ht2
          have hpb := (HT.out.inv.node 2 p rfl).2.2.2
          obtain ⟨hq1, hq2⟩ := hpb
          have hmn : mn (p.f7 + n) 1099511627776 = mn (p.f7 + n) 1099511627776 := rfl
          clear d ht HT hmn
          have hx : W4.cell? (ad.add i) = some (.int .i64 n) := (HT4.out.bel.cell (World.block_lt_of_cell? w _ HX.out)).trans HX.out
          by_cases hM : p.f7 + n ≤ 1099511627776
          · have hmn : mn (p.f7 + n) 1099511627776 = p.f7 + n := by unfold mn; split <;> omega
            rw [hmn] at HT4
            clear hmn
            by_cases hj : (i : Int) < (l1.length : Int)
            · obtain ⟨ad1, hA1, hy⟩ := Kd.at_bool HR1.out (i : Int) (by omega) hj
              rw [Int.toNat_natCast] at hy
              subst hA1
              generalize rdOf false l1 (i : Int) = b at hy
              have HY := Aside0.mk hy
              clear hy
              have hy : W4.cell? (ad1.add i) = some (.bool b) := (HT4.out.bel.cell (World.block_lt_of_cell? w _ HY.out)).trans HY.out
              cases b with
              | false =>
                go_wp2_with fail
                refine (HT4.out.Get_any 2).mono ?_
                rintro e W5 ⟨rfl, hb⟩
                have HT5 := Aside0.mk (HT4.out.below hb)
                clear hb hx hy
                go_wp2_with (refine store_new rfl 33 (.tmp 11) (.tmp 82) rfl W5.heap.size (peerC { p with f7 := p.f7 + n }).toArray rfl rfl 33 _ (heap_alloc_new W5 _) info33z rfl (peer_one _) ?_; intro W6 hW6 hb6; have HT6 := Aside0.mk (HT5.out.below (Below.trans (below_alloc (Below.refl _ _) _) hb6)); have cn := (blk_cell hW6 8).trans (show (peerC { p with f7 := p.f7 + n }).toArray[8]? = some (.int .i64 (p.f7 + n)) from rfl); have cr := (blk_cell hW6 9).trans (show (peerC { p with f7 := p.f7 + n }).toArray[9]? = some (.int .i64 p.f8) from rfl); clear hW6 hb6)
                go_roundg gg
                case measure => omega
                case rel => exact ⟨i + 1, { p with f7 := p.f7 + n }, by go_num, rfl, rfl, ⟨by have := HG.out; omega⟩, HT6⟩
              | true =>
                go_wp2_with fail
                refine HT4.out.Roll_any.mono ?_
                rintro e W5 ⟨rfl, d⟩
                rw [ratesM_roll] at d
                have HT5 := Aside0.mk d.pt
                clear d hx hy
                go_wp2_with fail
                refine (HT5.out.Get_any 2).mono ?_
                rintro e W6 ⟨rfl, hb⟩
                have HT6 := Aside0.mk (HT5.out.below hb)
                clear hb
                go_wp2_with (refine store_new rfl 33 (.tmp 11) (.tmp 82) rfl W6.heap.size (peerC (roll1 { p with f7 := p.f7 + n })).toArray rfl rfl 33 _ (heap_alloc_new W6 _) info33z rfl (peer_one _) ?_; intro W7 hW7 hb7; have HT7 := Aside0.mk (HT6.out.below (Below.trans (below_alloc (Below.refl _ _) _) hb7)); have cn := (blk_cell hW7 8).trans (show (peerC (roll1 { p with f7 := p.f7 + n })).toArray[8]? = some (.int .i64 0) from rfl); have cr := (blk_cell hW7 9).trans (show (peerC (roll1 { p with f7 := p.f7 + n })).toArray[9]? = some (.int .i64 (p.f7 + n)) from rfl); clear hW7 hb7)
                go_roundg gg
                case measure => omega
                case rel => exact ⟨i + 1, roll1 { p with f7 := p.f7 + n }, by go_num, rfl, rfl, ⟨by have := HG.out; omega⟩, HT7⟩
            · go_wp2_with fail
              refine (HT4.out.Get_any 2).mono ?_
              rintro e W5 ⟨rfl, hb⟩
              have HT5 := Aside0.mk (HT4.out.below hb)
              clear hb hx
              go_wp2_with (refine store_new rfl 33 (.tmp 11) (.tmp 82) rfl W5.heap.size (peerC { p with f7 := p.f7 + n }).toArray rfl rfl 33 _ (heap_alloc_new W5 _) info33z rfl (peer_one _) ?_; intro W6 hW6 hb6; have HT6 := Aside0.mk (HT5.out.below (Below.trans (below_alloc (Below.refl _ _) _) hb6)); have cn := (blk_cell hW6 8).trans (show (peerC { p with f7 := p.f7 + n }).toArray[8]? = some (.int .i64 (p.f7 + n)) from rfl); have cr := (blk_cell hW6 9).trans (show (peerC { p with f7 := p.f7 + n }).toArray[9]? = some (.int .i64 p.f8) from rfl); clear hW6 hb6)
              go_roundg gg
              case measure => omega
              case rel => exact ⟨i + 1, { p with f7 := p.f7 + n }, by go_num, rfl, rfl, ⟨by have := HG.out; omega⟩, HT6⟩
          · have hmn : mn (p.f7 + n) 1099511627776 = 1099511627776 := by unfold mn; split <;> omega
            rw [hmn] at HT4
            clear hmn
            have hM2 : 1099511627776 < p.f7 + n := by omega
            by_cases hj : (i : Int) < (l1.length : Int)
            · obtain ⟨ad1, hA1, hy⟩ := Kd.at_bool HR1.out (i : Int) (by omega) hj
              rw [Int.toNat_natCast] at hy
              subst hA1
              generalize rdOf false l1 (i : Int) = b at hy
              have HY := Aside0.mk hy
              clear hy
              have hy : W4.cell? (ad1.add i) = some (.bool b) := (HT4.out.bel.cell (World.block_lt_of_cell? w _ HY.out)).trans HY.out
              cases b with
              | false =>
                go_wp2_with fail
                refine (HT4.out.Get_any 2).mono ?_
                rintro e W5 ⟨rfl, hb⟩
                have HT5 := Aside0.mk (HT4.out.below hb)
                clear hb hx hy
                go_wp2_with (refine store_new rfl 33 (.tmp 11) (.tmp 82) rfl W5.heap.size (peerC { p with f7 := 1099511627776 }).toArray rfl rfl 33 _ (heap_alloc_new W5 _) info33z rfl (peer_one _) ?_; intro W6 hW6 hb6; have HT6 := Aside0.mk (HT5.out.below (Below.trans (below_alloc (Below.refl _ _) _) hb6)); have cn := (blk_cell hW6 8).trans (show (peerC { p with f7 := 1099511627776 }).toArray[8]? = some (.int .i64 1099511627776) from rfl); have cr := (blk_cell hW6 9).trans (show (peerC { p with f7 := 1099511627776 }).toArray[9]? = some (.int .i64 p.f8) from rfl); clear hW6 hb6)
                go_roundg gg
                case measure => omega
                case rel => exact ⟨i + 1, { p with f7 := 1099511627776 }, by go_num, rfl, rfl, ⟨by have := HG.out; omega⟩, HT6⟩
              | true =>
                go_wp2_with fail
                refine HT4.out.Roll_any.mono ?_
                rintro e W5 ⟨rfl, d⟩
                rw [ratesM_roll] at d
                have HT5 := Aside0.mk d.pt
                clear d hx hy
                go_wp2_with fail
                refine (HT5.out.Get_any 2).mono ?_
                rintro e W6 ⟨rfl, hb⟩
                have HT6 := Aside0.mk (HT5.out.below hb)
                clear hb
                go_wp2_with (refine store_new rfl 33 (.tmp 11) (.tmp 82) rfl W6.heap.size (peerC (roll1 { p with f7 := 1099511627776 })).toArray rfl rfl 33 _ (heap_alloc_new W6 _) info33z rfl (peer_one _) ?_; intro W7 hW7 hb7; have HT7 := Aside0.mk (HT6.out.below (Below.trans (below_alloc (Below.refl _ _) _) hb7)); have cn := (blk_cell hW7 8).trans (show (peerC (roll1 { p with f7 := 1099511627776 })).toArray[8]? = some (.int .i64 0) from rfl); have cr := (blk_cell hW7 9).trans (show (peerC (roll1 { p with f7 := 1099511627776 })).toArray[9]? = some (.int .i64 1099511627776) from rfl); clear hW7 hb7)
                go_roundg gg
                case measure => omega
                case rel => exact ⟨i + 1, roll1 { p with f7 := 1099511627776 }, by go_num, rfl, rfl, ⟨by have := HG.out; omega⟩, HT7⟩
            · go_wp2_with fail
              refine (HT4.out.Get_any 2).mono ?_
              rintro e W5 ⟨rfl, hb⟩
              have HT5 := Aside0.mk (HT4.out.below hb)
              clear hb hx
              go_wp2_with (refine store_new rfl 33 (.tmp 11) (.tmp 82) rfl W5.heap.size (peerC { p with f7 := 1099511627776 }).toArray rfl rfl 33 _ (heap_alloc_new W5 _) info33z rfl (peer_one _) ?_; intro W6 hW6 hb6; have HT6 := Aside0.mk (HT5.out.below (Below.trans (below_alloc (Below.refl _ _) _) hb6)); have cn := (blk_cell hW6 8).trans (show (peerC { p with f7 := 1099511627776 }).toArray[8]? = some (.int .i64 1099511627776) from rfl); have cr := (blk_cell hW6 9).trans (show (peerC { p with f7 := 1099511627776 }).toArray[9]? = some (.int .i64 p.f8) from rfl); clear hW6 hb6)
              go_roundg gg
              case measure => omega
              case rel => exact ⟨i + 1, { p with f7 := 1099511627776 }, by go_num, rfl, rfl, ⟨by have := HG.out; omega⟩, HT6⟩
        · rw [if_neg ht] at he
          rw [if_neg ht] at d
          subst he
          have HT4 := Aside0.mk d.pt
          have ht2 : ¬ (0 ≤ n ∧ n ≤ 1099511627776) := fun h => ht (decide_eq_true h)
          clear d ht HT
          have hx : W4.cell? (ad.add i) = some (.int .i64 n) := (HT4.out.bel.cell (World.block_lt_of_cell? w _ HX.out)).trans HX.out
          by_cases ht3 : n < 0
          · clear ht2
            by_cases hj : (i : Int) < (l1.length : Int)
            · obtain ⟨ad1, hA1, hy⟩ := Kd.at_bool HR1.out (i : Int) (by omega) hj
              rw [Int.toNat_natCast] at hy
              subst hA1
              generalize rdOf false l1 (i : Int) = b at hy
              have HY := Aside0.mk hy
              clear hy
              have hy : W4.cell? (ad1.add i) = some (.bool b) := (HT4.out.bel.cell (World.block_lt_of_cell? w _ HY.out)).trans HY.out
              cases b with
              | false =>
                go_wp2_with fail
                refine (HT4.out.Get_any 2).mono ?_
                rintro e W5 ⟨rfl, hb⟩
                have HT5 := Aside0.mk (HT4.out.below hb)
                clear hb hx hy
                go_wp2_with (refine store_new rfl 33 (.tmp 11) (.tmp 82) rfl W5.heap.size (peerC p).toArray rfl rfl 33 _ (heap_alloc_new W5 _) info33z rfl (peer_one _) ?_; intro W6 hW6 hb6; have HT6 := Aside0.mk (HT5.out.below (Below.trans (below_alloc (Below.refl _ _) _) hb6)); have cn := (blk_cell hW6 8).trans (show (peerC p).toArray[8]? = some (.int .i64 p.f7) from rfl); have cr := (blk_cell hW6 9).trans (show (peerC p).toArray[9]? = some (.int .i64 p.f8) from rfl); clear hW6 hb6)
                go_roundg gg
                case measure => omega
                case rel => exact ⟨i + 1, p, by go_num, rfl, rfl, ⟨by have := HG.out; omega⟩, HT6⟩
              | true =>
                go_wp2_with fail
                refine HT4.out.Roll_any.mono ?_
                rintro e W5 ⟨rfl, d⟩
                rw [ratesM_roll] at d
                have HT5 := Aside0.mk d.pt
                clear d hx hy
                go_wp2_with fail
                refine (HT5.out.Get_any 2).mono ?_
                rintro e W6 ⟨rfl, hb⟩
                have HT6 := Aside0.mk (HT5.out.below hb)
                clear hb
                go_wp2_with (refine store_new rfl 33 (.tmp 11) (.tmp 82) rfl W6.heap.size (peerC (roll1 p)).toArray rfl rfl 33 _ (heap_alloc_new W6 _) info33z rfl (peer_one _) ?_; intro W7 hW7 hb7; have HT7 := Aside0.mk (HT6.out.below (Below.trans (below_alloc (Below.refl _ _) _) hb7)); have cn := (blk_cell hW7 8).trans (show (peerC (roll1 p)).toArray[8]? = some (.int .i64 0) from rfl); have cr := (blk_cell hW7 9).trans (show (peerC (roll1 p)).toArray[9]? = some (.int .i64 p.f7) from rfl); clear hW7 hb7)
                go_roundg gg
                case measure => omega
                case rel => exact ⟨i + 1, roll1 p, by go_num, rfl, rfl, ⟨by have := HG.out; omega⟩, HT7⟩
            · go_wp2_with fail
              refine (HT4.out.Get_any 2).mono ?_
              rintro e W5 ⟨rfl, hb⟩
              have HT5 := Aside0.mk (HT4.out.below hb)
              clear hb hx
              go_wp2_with (refine store_new rfl 33 (.tmp 11) (.tmp 82) rfl W5.heap.size (peerC p).toArray rfl rfl 33 _ (heap_alloc_new W5 _) info33z rfl (peer_one _) ?_; intro W6 hW6 hb6; have HT6 := Aside0.mk (HT5.out.below (Below.trans (below_alloc (Below.refl _ _) _) hb6)); have cn := (blk_cell hW6 8).trans (show (peerC p).toArray[8]? = some (.int .i64 p.f7) from rfl); have cr := (blk_cell hW6 9).trans (show (peerC p).toArray[9]? = some (.int .i64 p.f8) from rfl); clear hW6 hb6)
              go_roundg gg
              case measure => omega
              case rel => exact ⟨i + 1, p, by go_num, rfl, rfl, ⟨by have := HG.out; omega⟩, HT6⟩
          · have ht4 : 1099511627776 < n := by omega
            clear ht2
            by_cases hj : (i : Int) < (l1.length : Int)
            · obtain ⟨ad1, hA1, hy⟩ := Kd.at_bool HR1.out (i : Int) (by omega) hj
              rw [Int.toNat_natCast] at hy
              subst hA1
              generalize rdOf false l1 (i : Int) = b at hy
              have HY := Aside0.mk hy
              clear hy
              have hy : W4.cell? (ad1.add i) = some (.bool b) := (HT4.out.bel.cell (World.block_lt_of_cell? w _ HY.out)).trans HY.out
              cases b with
              | false =>
                go_wp2_with fail
                refine (HT4.out.Get_any 2).mono ?_
                rintro e W5 ⟨rfl, hb⟩
                have HT5 := Aside0.mk (HT4.out.below hb)
                clear hb hx hy
                go_wp2_with (refine store_new rfl 33 (.tmp 11) (.tmp 82) rfl W5.heap.size (peerC p).toArray rfl rfl 33 _ (heap_alloc_new W5 _) info33z rfl (peer_one _) ?_; intro W6 hW6 hb6; have HT6 := Aside0.mk (HT5.out.below (Below.trans (below_alloc (Below.refl _ _) _) hb6)); have cn := (blk_cell hW6 8).trans (show (peerC p).toArray[8]? = some (.int .i64 p.f7) from rfl); have cr := (blk_cell hW6 9).trans (show (peerC p).toArray[9]? = some (.int .i64 p.f8) from rfl); clear hW6 hb6)
                go_roundg gg
                case measure => omega
                case rel => exact ⟨i + 1, p, by go_num, rfl, rfl, ⟨by have := HG.out; omega⟩, HT6⟩
              | true =>
                go_wp2_with fail
                refine HT4.out.Roll_any.mono ?_
                rintro e W5 ⟨rfl, d⟩
                rw [ratesM_roll] at d
                have HT5 := Aside0.mk d.pt
                clear d hx hy
                go_wp2_with fail
                refine (HT5.out.Get_any 2).mono ?_
                rintro e W6 ⟨rfl, hb⟩
                have HT6 := Aside0.mk (HT5.out.below hb)
                clear hb
                go_wp2_with (refine store_new rfl 33 (.tmp 11) (.tmp 82) rfl W6.heap.size (peerC (roll1 p)).toArray rfl rfl 33 _ (heap_alloc_new W6 _) info33z rfl (peer_one _) ?_; intro W7 hW7 hb7; have HT7 := Aside0.mk (HT6.out.below (Below.trans (below_alloc (Below.refl _ _) _) hb7)); have cn := (blk_cell hW7 8).trans (show (peerC (roll1 p)).toArray[8]? = some (.int .i64 0) from rfl); have cr := (blk_cell hW7 9).trans (show (peerC (roll1 p)).toArray[9]? = some (.int .i64 p.f7) from rfl); clear hW7 hb7)
                go_roundg gg
                case measure => omega
                case rel => exact ⟨i + 1, roll1 p, by go_num, rfl, rfl, ⟨by have := HG.out; omega⟩, HT7⟩
            · go_wp2_with fail
              refine (HT4.out.Get_any 2).mono ?_
              rintro e W5 ⟨rfl, hb⟩
              have HT5 := Aside0.mk (HT4.out.below hb)
              clear hb hx
              go_wp2_with (refine store_new rfl 33 (.tmp 11) (.tmp 82) rfl W5.heap.size (peerC p).toArray rfl rfl 33 _ (heap_alloc_new W5 _) info33z rfl (peer_one _) ?_; intro W6 hW6 hb6; have HT6 := Aside0.mk (HT5.out.below (Below.trans (below_alloc (Below.refl _ _) _) hb6)); have cn := (blk_cell hW6 8).trans (show (peerC p).toArray[8]? = some (.int .i64 p.f7) from rfl); have cr := (blk_cell hW6 9).trans (show (peerC p).toArray[9]? = some (.int .i64 p.f8) from rfl); clear hW6 hb6)
              go_roundg gg
              case measure => omega
              case rel => exact ⟨i + 1, p, by go_num, rfl, rfl, ⟨by have := HG.out; omega⟩, HT6⟩
      · go_wp2
        go_ret
        exact ⟨rfl, HT.out.bel⟩
    · go_wp2
      go_ret
      exact ⟨rfl, HT.out.bel⟩
end Go.Proofs.Ytpejjpecdkbleaa.Print
