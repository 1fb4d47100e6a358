/- The law NetPlays, by hand. -/
-- MANUAL mosaic/mosaiclaw21.NetPlays making plain
import Derived.Test.YtcddajdjmlmpdaaPrK
import Derived.Test.YtcddajdjmlmpdaaMaNet1
import Derived.Test.YtcddajdjmlmpdaaMaNet2
import Derived.Test.YtcddajdjmlmpdaaMaNet3
import Derived.Test.YtcddajdjmlmpdaaMaNet4
import Derived.Test.YtcddajdjmlmpdaaMaNet6
import Derived.Test.YtcddajdjmlmpdaaMaNet7
import Derived.Test.YtcddajdjmlmpdaaMaNet8
import Derived.Test.YtcddajdjmlmpdaaMaNet9
import Derived.Test.YtcddajdjmlmpdaaPr30
import Derived.Test.YtcddajdjmlmpdaaPrE59
import Derived.Test.YtcddajdjmlmpdaaMaNet9
import Derived.Test.YtcddajdjmlmpdaaPureW
import Derived.IntWalk
import Derived.BigQuiet
import Derived.Deep.QuietTactic
import Derived.Deep.RegionLaw
import Derived.Deep.RegionHeld3
import Derived.Deep.DeepCutAuto
import Derived.RegionTactic
import Derived.StillTailTactics
import Derived.Outline
import Derived.Laws.CopyOwn
namespace Go.Proofs.Ytcddajdjmlmpdaa.Print
open Go.RowKit Go.Proofs.YtcddajdjmlmpdaaW.PrintWords Go.Proofs.YtcddajdjmlmpdaaW.PrintLast Go.Proofs.YtcddajdjmlmpdaaW.PrintMore
attribute [local go_sem high] eqA59
set_option linter.unusedVariables false
set_option linter.unusedSimpArgs false

def mosaiclaw21_NetPlays.f (a0 : Int) (l1 : List S50) (a2 : Int) : Option Bool := if ∀ x ∈ l1, -9223372036854775808 ≤ x.f1 ∧ x.f1 ≤ 9223372036854775807 then some true else none
set_option maxHeartbeats 16000000 in
set_option maxRecDepth 100000 in
theorem mosaiclaw21_NetPlays.calls (room : Int) (A1 : Option Addr) (c1 : Nat) (l1 : List S50) (node : Int) (r : Bool) (w : World) (hr1 : Kd.C k50 w A1 l1.length l1) (hc1 : l1.length ≤ c1) (h : mosaiclaw21_NetPlays.f room l1 node = some r) :
    Calls Try.prog 6 #[.int .i64 room, .slice A1 l1.length c1, .int .i64 node] w fun e w' => e = .returned (.bool r) ∧ Below w.heap.size w w' := by
  unfold mosaiclaw21_NetPlays.f at h
  split at h
  · rename_i hwf
    obtain rfl := Option.some.inj h
    clear h
    have HR := Aside0.mk hr1
    have HWF := Aside0.mk hwf
    clear hr1 hc1 hwf
    by_cases hroom : 1 ≤ room ∧ room ≤ 600
    · have HRM := Aside0.mk hroom
      obtain ⟨ra, rb⟩ := hroom
      go_enter Try.func6, Try.ntmps6
      go_wp2_with fail
      refine (New_yes room _ HRM.out.1 HRM.out.2).mono ?_
      rintro e W1 ⟨g, b, rfl, t⟩
      have T1 := Aside0.mk t
      clear t
      go_wp2_with fail
      have HX1 := Aside0.mk (heap_alloc_new W1 (.cells #[.int .i64 room, .int .i64 0, .slice none 0 0] 55))
      have T2 := Aside0.mk (T1.out.below (below_alloc (Below.refl _ _) (.cells #[.int .i64 room, .int .i64 0, .slice none 0 0] 55)))
      have HGE := Aside0.mk T1.out.bel.size
      generalize W1.heap.size = hh at HX1 HGE ⊢
      refine (awake21 _).mono ?_
      rintro e W3 ⟨rfl, hb⟩
      have T3 := Aside0.mk (T2.out.below hb)
      have HX3 := Aside0.mk (blk_below HX1.out hb)
      clear hb T2 HX1 T1
      go_wp2_with fail
      go_loopg [9] 61 (fun gg v9 wr => ∃ (i : Nat) (last : Int) (m : NMs) (A8 : Option Addr) (c8 : Nat), v9 = .int .i64 i ∧ Aside0 (i + gg = 61) ∧ Aside0 (PI w wr g b hh i room last m (.slice A8 m.length c8)))
      case atStart => exact ⟨0, 0, [], none, 0, rfl, ⟨by omega⟩, ⟨T3.out, HX3.out, Kd.R_nil _ _ _ _ _, HGE.out, by omega, by simp⟩⟩
      case round =>
        clear T3 HX3
        obtain ⟨i, last, m, A8, c8, rfl, HG, HC⟩ := hrel
        by_cases hlt : (i : Int) < (l1.length : Int)
        · by_cases h60 : (i : Int) < 60
          · obtain ⟨gg, rfl⟩ : ∃ z, gk = z + 1 := ⟨gk - 1, by have := HG.out; omega⟩
            have hil : i < l1.length := by omega
            obtain ⟨ad, hA, z0, z1, z2, z3, z4⟩ := at_T50 (Kd.C_below HR.out HC.out.net.bel) (i : Int) (by omega) hlt
            have hrd : rd_T50 l1 (i : Int) = l1[i] := by
              unfold rd_T50
              rw [Int.toNat_natCast, List.getD_eq_getElem?_getD, List.getElem?_eq_getElem hil]
              rfl
            have hq := HWF.out l1[i] (List.getElem_mem hil)
            rw [← hrd] at hq
            clear hrd
            rw [Int.toNat_natCast] at z0 z1 z2 z3 z4
            subst hA
            generalize rd_T50 l1 (i : Int) = q at z0 z1 z2 z3 z4 hq
            have HQ := Aside0.mk hq
            clear hq
            by_cases hs : (500 : Int) < (q.f2.f2.size : Int)
            · have hs1 : (500 < q.f2.f2.size) = True := eq_true (by omega)
              go_wp2_with fail
              go_roundg gg
              case measure => omega
              case rel => exact ⟨i + 1, last, m, A8, c8, by go_num, ⟨by have := HG.out; omega⟩, ⟨(HC.out.below (below_alloc (Below.refl _ _) _)).next⟩⟩
            · have hs0 : ((500 : Int) < (q.f2.f2.size : Int)) = False := eq_false hs
              have hs1 : (500 < q.f2.f2.size) = False := eq_false (by omega)
              clear hs
              go_upto_region 12 with fail
              have HX := Aside0.mk (heap_alloc_new wr (.cells #[.int .i64 q.f0, .int .i64 q.f1, .int .i64 q.f2.f0, .int .i64 q.f2.f1, .string q.f2.f2] 50))
              have HC3 := Aside0.mk (HC.out.below (below_alloc (Below.refl _ _) (.cells #[.int .i64 q.f0, .int .i64 q.f1, .int .i64 q.f2.f0, .int .i64 q.f2.f1, .string q.f2.f2] 50)))
              generalize wr.alloc (.cells #[.int .i64 q.f0, .int .i64 q.f1, .int .i64 q.f2.f0, .int .i64 q.f2.f1, .string q.f2.f2] 50) = W4 at HX HC3 ⊢
              have HXG := Aside0.mk (show w.heap.size ≤ wr.heap.size from HC.out.net.bel.size)
              generalize wr.heap.size = xb at HX HXG ⊢
              clear z0 z1 z2 z3 z4 HC
              have HNE := Aside0.mk (And.intro (show xb ≠ hh from fun e => by have := HC3.out.ref; rw [← e, HX.out] at this; injection this with this; injection this with _ this; exact absurd this (by decide)) HXG.out)
              have c0 := (show W4.cell? ⟨xb, 0, none⟩ = some (.int .i64 q.f0) from blk_cell HX.out 0)
              have c1 := (show W4.cell? ⟨xb, 1, none⟩ = some (.int .i64 q.f1) from blk_cell HX.out 1)
              go_cut [76] from 50 to 228 (fun v76 wc => v76 = .bool (decide (q.f0 = 4 ∨ q.f0 = 5)) ∧ W4 = wc)
              case first =>
                by_cases k4 : q.f0 = 4
                · have e4 : (q.f0 == 4) = true := by simp [k4]
                  have HD := Aside0.mk (decide_eq_true (.inl k4 : q.f0 = 4 ∨ q.f0 = 5))
                  clear k4
                  go_wp2_with fail
                  go_meet
                  case rel => exact ⟨by rw [HD.out], rfl⟩
                have e4 : (q.f0 == 4) = false := by simp [k4]
                by_cases k5 : q.f0 = 5
                · have e5 : (q.f0 == 5) = true := by simp [k5]
                  have HD := Aside0.mk (decide_eq_true (.inr k5 : q.f0 = 4 ∨ q.f0 = 5))
                  clear k4 k5
                  go_wp2_with fail
                  go_meet
                  case rel => exact ⟨by rw [HD.out], rfl⟩
                have e5 : (q.f0 == 5) = false := by simp [k5]
                have HD := Aside0.mk (decide_eq_false (fun h => h.elim k4 k5 : ¬ (q.f0 = 4 ∨ q.f0 = 5)))
                clear k4 k5
                go_wp2_with fail
                go_meet
                case rel => exact ⟨by rw [HD.out], rfl⟩
              case rest =>
                obtain ⟨rfl, rfl⟩ := hcut
                go_upto_if 76 with fail
                go_cut [] from 50 to 228 (fun wc => ∃ K I : Int, Aside0 (-9223372036854775808 ≤ I ∧ I ≤ 9223372036854775807) ∧ Aside0 (PI w wc g b hh i room last m (.slice A8 m.length c8)) ∧ Aside0 (wc.heap[xb]? = some (.cells #[.int .i64 K, .int .i64 I, .int .i64 q.f2.f0, .int .i64 q.f2.f1, .string q.f2.f2] 50 (0, 0))) ∧ Aside0 (xb ≠ hh ∧ w.heap.size ≤ xb))
                case first =>
                  by_cases h45 : q.f0 = 4 ∨ q.f0 = 5
                  · as_aux_lemma =>
                      rw [decide_eq_true h45]
                      clear h45
                      have HP := Aside0.mk (And.intro HC3.out HX.out)
                      have HN := Aside0.mk (fun (W' : World) (hb : Below W4.heap.size W4 W') => (HC3.out.net.below hb).Nth_any (HC3.out.len (by omega)) q.f1 (by have := HQ.out; omega))
                      have HRN := Aside0.mk (fun (W' : World) (hb : Below W4.heap.size W4 W') => refNth (HC3.out.row.below hb) (HC3.out.len (by omega)) room last q.f1)
                      have HK := Aside0.mk (fun (W' : World) (hb : Below W4.heap.size W4 W') => And.intro (show W'.cell? ⟨xb, 1, none⟩ = some (.int .i64 q.f1) from blk_cell (blk_below HX.out hb) 1) (And.intro (show W'.cell? ⟨hh, 0, none⟩ = some (.int .i64 room) from blk_cell (blk_below HC3.out.ref hb) 0) (And.intro (show W'.cell? ⟨hh, 1, none⟩ = some (.int .i64 last) from blk_cell (blk_below HC3.out.ref hb) 1) (show W'.cell? ⟨hh, 2, none⟩ = some (.slice A8 m.length c8) from blk_cell (blk_below HC3.out.ref hb) 2))))
                      go_upto_region 13 with fail
                      go_cut [85] from 50 to 228 (fun v85 wc => v85 = .bool false ∧ Aside0 (Below W4.heap.size W4 wc))
                      case first =>
                        clear c0 c1
                        obtain ⟨k1, h0, h1, h2⟩ := HK.out W4 (Below.refl _ _)
                        go_region_held3 (fun w' => w'.cell? ⟨xb, 1, none⟩ = some (.int .i64 q.f1) ∧ w'.cell? ⟨hh, 0, none⟩ = some (.int .i64 room) ∧ w'.cell? ⟨hh, 1, none⟩ = some (.int .i64 last) ∧ w'.cell? ⟨hh, 2, none⟩ = some (.slice A8 m.length c8)) (go_keep)
                          (first
                            | (go_at_call 24; refine (HN.out _ (by repeat (first | (with_reducible first | exact Below.refl _ _ | apply below_alloc | apply pw_below_drewN | apply below_drew1) | exact Below.refl _ _))).mono ?_; rintro e w7 ⟨he, hb⟩; subst he; have HB7 := Aside0.mk (below_step (by repeat (first | (with_reducible first | exact Below.refl _ _ | apply below_alloc | apply pw_below_drewN | apply below_drew1) | exact Below.refl _ _)) hb : Below W4.heap.size W4 w7); clear k1 h0 h1 h2 hb; obtain ⟨k1, h0, h1, h2⟩ := HK.out w7 HB7.out)
                            | (go_at_call 28; refine (HRN.out _ (below_step HB7.out (by repeat (first | (with_reducible first | exact Below.refl _ _ | apply below_alloc | apply pw_below_drewN | apply below_drew1) | exact Below.refl _ _)))).mono ?_; rintro e w8 ⟨he, hb⟩; subst he; have HB8 := Aside0.mk (below_step (below_step HB7.out (by repeat (first | (with_reducible first | exact Below.refl _ _ | apply below_alloc | apply pw_below_drewN | apply below_drew1) | exact Below.refl _ _))) hb : Below W4.heap.size W4 w8); clear k1 h0 h1 h2 hb; obtain ⟨k1, h0, h1, h2⟩ := HK.out w8 HB8.out))
                        all_goals
                          (try go_wp2_with fail)
                          go_meet
                          case rel => exact ⟨by simp, ⟨below_step HB8.out (by repeat (first | (with_reducible first | exact Below.refl _ _ | apply below_alloc | apply pw_below_drewN | apply below_drew1) | exact Below.refl _ _))⟩⟩
                      case rest =>
                        obtain ⟨rfl, HB5⟩ := hcut
                        have HX5 := Aside0.mk (blk_below HX.out HB5.out)
                        have HC5 := Aside0.mk (HC3.out.below HB5.out)
                        clear c0 c1 HP HN HRN HK HX HC3 HB5
                        have c0 := (show wc.cell? ⟨xb, 0, none⟩ = some (.int .i64 q.f0) from blk_cell HX5.out 0)
                        have cz0 := (show wc.frozen? ⟨xb, 0, none⟩ = false from blk_frozen HX5.out 0)
                        go_upto_region 15 with fail
                        go_cut [] from 50 to 228 (fun wq => ∃ K : Int, Aside0 (PI w wq g b hh i room last m (.slice A8 m.length c8)) ∧ Aside0 (wq.heap[xb]? = some (.cells #[.int .i64 K, .int .i64 q.f1, .int .i64 q.f2.f0, .int .i64 q.f2.f1, .string q.f2.f2] 50 (0, 0))))
                        case first =>
                          go_wp2_with fail
                          go_meet
                          case rel => exact ⟨_, ⟨HC5.out.keepB HX5.out (by decide) (KeepBut.set_ (KeepBut.refl _ _ _) 0 _) (HC5.out.net.bel.setCell HNE.out.2 _)⟩, ⟨blk_put HX5.out 0 _ rfl⟩⟩
                        case rest =>
                          obtain ⟨K, HC6, HX6⟩ := hcut
                          clear c0 cz0 HC5 HX5
                          have c1 := (show wc.cell? ⟨xb, 1, none⟩ = some (.int .i64 q.f1) from blk_cell HX6.out 1)
                          have h0 := (show wc.cell? ⟨hh, 0, none⟩ = some (.int .i64 room) from blk_cell HC6.out.ref 0)
                          have h1 := (show wc.cell? ⟨hh, 1, none⟩ = some (.int .i64 last) from blk_cell HC6.out.ref 1)
                          have h2 := (show wc.cell? ⟨hh, 2, none⟩ = some (.slice A8 m.length c8) from blk_cell HC6.out.ref 2)
  
                          go_wp2_with fail
                          refine (refNth HC6.out.row (HC6.out.len (by omega)) room last q.f1).mono ?_
                          rintro e w7 ⟨rfl, hb7⟩
                          have HX7 := Aside0.mk (blk_below HX6.out hb7)
                          have HC7 := Aside0.mk (HC6.out.below hb7)
                          clear c1 h0 h1 h2 hb7 HC6 HX6
                          have cz1 := (show w7.frozen? ⟨xb, 1, none⟩ = false from blk_frozen HX7.out 1)
                          have c1 := (show w7.cell? ⟨xb, 1, none⟩ = some (.int .i64 q.f1) from blk_cell HX7.out 1)
                          go_wp2_with fail
                          go_meet
                          case rel => exact ⟨K, nthN m q.f1, ⟨by have := nthN_in HC7.out.net (HC7.out.lo (by omega)).2 q.f1; omega⟩, ⟨HC7.out.keepB HX7.out (by decide) (KeepBut.set_ (KeepBut.refl _ _ _) 1 _) (HC7.out.net.bel.setCell HNE.out.2 _)⟩, ⟨blk_put HX7.out 1 _ rfl⟩, HNE⟩
                  · rw [decide_eq_false h45]
                    clear h45
                    go_wp2_with fail
                    go_meet
                    case rel => exact ⟨q.f0, q.f1, HQ, HC3, HX, HNE⟩
                case rest =>
                  obtain ⟨K, I, HI, HC4, HX4, HNE4⟩ := hcut
                  clear c0 c1 HX HC3 HNE HXG HQ
                  go_at_K
                  go_step
                  go_step
                  go_cut [11, 12, 13, 14, 15, 16, 17, 18, 19, 20, 21, 22, 23, 24, 25, 26, 27, 28] from 50 to 228 (fun v11 v12 v13 v14 v15 v16 v17 v18 v19 v20 v21 v22 v23 v24 v25 v26 v27 v28 wq => ∃ (last2 : Int) (m2 : NMs) (A2 : Option Addr) (n2 : Nat), Aside0 (PI w wq g b hh (i + 1) room last2 m2 (.slice A2 m2.length n2)))
                  case first =>
                    obtain ⟨W5, hW5⟩ : ∃ W, W = wc := ⟨_, rfl⟩
                    subst hW5
                    have h0 := (show W5.cell? ⟨hh, 0, none⟩ = some (.int .i64 room) from blk_cell HC4.out.ref 0)
                    have h1 := (show W5.cell? ⟨hh, 1, none⟩ = some (.int .i64 last) from blk_cell HC4.out.ref 1)
                    have h2 := (show W5.cell? ⟨hh, 2, none⟩ = some (.slice A8 m.length c8) from blk_cell HC4.out.ref 2)
                    have x0 := (show W5.cell? ⟨xb, 0, none⟩ = some (.int .i64 K) from blk_cell HX4.out 0)
                    have x1 := (show W5.cell? ⟨xb, 1, none⟩ = some (.int .i64 I) from blk_cell HX4.out 1)
                    have x2 := (show W5.cell? ⟨xb, 2, none⟩ = some (.int .i64 q.f2.f0) from blk_cell HX4.out 2)
                    have x3 := (show W5.cell? ⟨xb, 3, none⟩ = some (.int .i64 q.f2.f1) from blk_cell HX4.out 3)
                    have x4 := (show W5.cell? ⟨xb, 4, none⟩ = some (.string q.f2.f2) from blk_cell HX4.out 4)

                    by_cases k0 : K = 0
                    · as_aux_lemma =>
                        have e0 : (K == 0) = true := by simp [k0]
                        clear k0
                        have HS := Aside0.mk (fun (W' : World) (hb : Below W5.heap.size W5 W') => HC4.out.rsend (by omega) HX4.out hb q.f2)
                        have HLT := Aside0.mk (blk_lt HC4.out.ref)
                        have HGW := Aside0.mk HC4.out.net.bel.size
                        go_upto_region 19 with fail
                        go_cut [11, 12, 13] from 50 to 228 (fun v11 v12 v13 wq => ∃ (tb : Nat) (A2 : Option Addr) (n2 : Nat), v11 = .pointer (some ⟨tb, 0, none⟩) ∧ v12 = .int .i64 (sendC room last m q.f2).1 ∧ v13 = .int .i64 (sendC room last m q.f2).2 ∧ Aside0 (wq.heap[tb]? = some (.cells #[.int .i64 room, .int .i64 (sendL room last m q.f2), .slice A2 (sendM room last m q.f2).length n2] 55 (0, 0))) ∧ Aside0 (RD w wq g b hh xb room last m (sendM room last m q.f2) (.slice A8 m.length c8) (.slice A2 (sendM room last m q.f2).length n2) #[.int .i64 K, .int .i64 I, .int .i64 q.f2.f0, .int .i64 q.f2.f1, .string q.f2.f2]))
                        case first =>
                          have n1w := World.new_ne W5 _ h0
                          have n2w := World.new_ne W5 _ x0
                          have n3w : ¬ W5.heap.size = hh := fun e => n1w e
                          have n4w : ¬ W5.heap.size = xb := fun e => n2w e
                          clear x0 x1
                          go_region_held3 (fun w' => w'.cell? ⟨hh, 0, none⟩ = some (.int .i64 room) ∧ w'.cell? ⟨hh, 1, none⟩ = some (.int .i64 last) ∧ w'.cell? ⟨hh, 2, none⟩ = some (.slice A8 m.length c8) ∧ w'.cell? ⟨xb, 2, none⟩ = some (.int .i64 q.f2.f0) ∧ w'.cell? ⟨xb, 3, none⟩ = some (.int .i64 q.f2.f1) ∧ w'.cell? ⟨xb, 4, none⟩ = some (.string q.f2.f2)) (go_keep)
                            (first
                              | (go_at_call 30; refine (mosaiclaw21_ref.calls q.f2.f0 q.f2.f1 q.f2.f2 0 q.f2.f0 q.f2.f1 q.f2.f2 _ rfl).mono ?_; rintro e w6 ⟨he, hb6⟩; subst he; have HB6 := Aside0.mk (below_step (by repeat (first | (with_reducible first | exact Below.refl _ _ | apply below_alloc | apply pw_below_drewN | apply below_drew1) | exact Below.refl _ _)) hb6 : Below W5.heap.size W5 w6); have HSZ6 := Aside0.mk HB6.out.size; have HZ6 := Aside0.mk (blk_below (g := W5.heap.size) (o := .cells #[.int .i64 0, .int .i64 0, .slice none 0 0] 55 (0, 0)) (by first | exact heap_alloc_new _ _ | exact blk_drew (heap_alloc_new _ _) | exact blk_drewN (heap_alloc_new _ _) _) hb6); have HZH := Aside0.mk n3w; have u0 := (show w6.cell? ⟨W5.heap.size, 0, none⟩ = some (.int .i64 0) from blk_cell HZ6.out 0); have uz0 := (show w6.frozen? ⟨W5.heap.size, 0, none⟩ = false from blk_frozen HZ6.out 0); have u1 := (show w6.cell? ⟨W5.heap.size, 1, none⟩ = some (.int .i64 0) from blk_cell HZ6.out 1); have uz1 := (show w6.frozen? ⟨W5.heap.size, 1, none⟩ = false from blk_frozen HZ6.out 1); have u2 := (show w6.cell? ⟨W5.heap.size, 2, none⟩ = some (.slice none 0 0) from blk_cell HZ6.out 2); have uz2 := (show w6.frozen? ⟨W5.heap.size, 2, none⟩ = false from blk_frozen HZ6.out 2); clear hb6 h0 h1 h2 x2 x3 x4; have h0 := (show w6.cell? ⟨hh, 0, none⟩ = some (.int .i64 room) from blk_cell (blk_below HC4.out.ref HB6.out) 0); have h1 := (show w6.cell? ⟨hh, 1, none⟩ = some (.int .i64 last) from blk_cell (blk_below HC4.out.ref HB6.out) 1); have h2 := (show w6.cell? ⟨hh, 2, none⟩ = some (.slice A8 m.length c8) from blk_cell (blk_below HC4.out.ref HB6.out) 2); have x2 := (show w6.cell? ⟨xb, 2, none⟩ = some (.int .i64 q.f2.f0) from blk_cell (blk_below HX4.out HB6.out) 2); have x3 := (show w6.cell? ⟨xb, 3, none⟩ = some (.int .i64 q.f2.f1) from blk_cell (blk_below HX4.out HB6.out) 3); have x4 := (show w6.cell? ⟨xb, 4, none⟩ = some (.string q.f2.f2) from blk_cell (blk_below HX4.out HB6.out) 4))
                              | (go_at_call 30; refine (mosaiclaw21_ref.calls q.f2.f0 q.f2.f1 q.f2.f2 0 q.f2.f0 q.f2.f1 q.f2.f2 _ rfl).mono ?_; rintro e w6 ⟨he, hb6⟩; subst he; have HB6 := Aside0.mk (below_step (by repeat (first | (with_reducible first | exact Below.refl _ _ | apply below_alloc | apply pw_below_drewN | apply below_drew1) | exact Below.refl _ _)) hb6 : Below W5.heap.size W5 w6); have HSZ6 := Aside0.mk HB6.out.size; have n1w6 := World.new_ne w6 _ (show w6.cell? ⟨hh, 0, none⟩ = some (.int .i64 room) from blk_cell (blk_below HC4.out.ref HB6.out) 0); have n2w6 := World.new_ne w6 _ (show w6.cell? ⟨xb, 0, none⟩ = some (.int .i64 K) from blk_cell (blk_below HX4.out HB6.out) 0); have n3w6 : ¬ w6.heap.size = hh := fun e => n1w6 e; have n4w6 : ¬ w6.heap.size = xb := fun e => n2w6 e; clear hb6 h0 h1 h2 x2 x3 x4; have h0 := (show w6.cell? ⟨hh, 0, none⟩ = some (.int .i64 room) from blk_cell (blk_below HC4.out.ref HB6.out) 0); have h1 := (show w6.cell? ⟨hh, 1, none⟩ = some (.int .i64 last) from blk_cell (blk_below HC4.out.ref HB6.out) 1); have h2 := (show w6.cell? ⟨hh, 2, none⟩ = some (.slice A8 m.length c8) from blk_cell (blk_below HC4.out.ref HB6.out) 2); have x2 := (show w6.cell? ⟨xb, 2, none⟩ = some (.int .i64 q.f2.f0) from blk_cell (blk_below HX4.out HB6.out) 2); have x3 := (show w6.cell? ⟨xb, 3, none⟩ = some (.int .i64 q.f2.f1) from blk_cell (blk_below HX4.out HB6.out) 3); have x4 := (show w6.cell? ⟨xb, 4, none⟩ = some (.string q.f2.f2) from blk_cell (blk_below HX4.out HB6.out) 4))
                              | (go_at_call 29; refine (HS.out _ (below_step HB6.out (by repeat (first | (with_reducible first | exact Below.refl _ _ | apply below_alloc | apply pw_below_drewN | apply below_drew1) | exact Below.refl _ _)))).mono ?_; rintro e w7 ⟨A2, n2, he, rd, hk⟩; subst he; have HD7 := Aside0.mk rd; have hz7 := blk_kept (g := W5.heap.size) (o := .cells #[.int .i64 0, .int .i64 0, .slice none 0 0] 55 (0, 0)) HZ6.out hk (pmail_not (b := W5.heap.size) (t := 55) (cells := #[.int .i64 0, .int .i64 0, .slice none 0 0]) HZ6.out (by decide)); clear u0 u1 u2 uz0 uz1 uz2; have HZ7 := Aside0.mk hz7; clear hz7; have u0 := (show w7.cell? ⟨W5.heap.size, 0, none⟩ = some (.int .i64 0) from blk_cell HZ7.out 0); have uz0 := (show w7.frozen? ⟨W5.heap.size, 0, none⟩ = false from blk_frozen HZ7.out 0); have u1 := (show w7.cell? ⟨W5.heap.size, 1, none⟩ = some (.int .i64 0) from blk_cell HZ7.out 1); have uz1 := (show w7.frozen? ⟨W5.heap.size, 1, none⟩ = false from blk_frozen HZ7.out 1); have u2 := (show w7.cell? ⟨W5.heap.size, 2, none⟩ = some (.slice none 0 0) from blk_cell HZ7.out 2); have uz2 := (show w7.frozen? ⟨W5.heap.size, 2, none⟩ = false from blk_frozen HZ7.out 2); clear rd hk h0 h1 h2 x2 x3 x4; have h0 := (show w7.cell? ⟨hh, 0, none⟩ = some (.int .i64 room) from blk_cell HD7.out.ref 0); have h1 := (show w7.cell? ⟨hh, 1, none⟩ = some (.int .i64 last) from blk_cell HD7.out.ref 1); have h2 := (show w7.cell? ⟨hh, 2, none⟩ = some (.slice A8 m.length c8) from blk_cell HD7.out.ref 2); have x2 := (show w7.cell? ⟨xb, 2, none⟩ = some (.int .i64 q.f2.f0) from blk_cell HD7.out.x 2); have x3 := (show w7.cell? ⟨xb, 3, none⟩ = some (.int .i64 q.f2.f1) from blk_cell HD7.out.x 3); have x4 := (show w7.cell? ⟨xb, 4, none⟩ = some (.string q.f2.f2) from blk_cell HD7.out.x 4))
                              | (go_at_call 29; refine (HS.out _ (below_step HB6.out (by repeat (first | (with_reducible first | exact Below.refl _ _ | apply below_alloc | apply pw_below_drewN | apply below_drew1) | exact Below.refl _ _)))).mono ?_; rintro e w7 ⟨A2, n2, he, rd, hk⟩; subst he; have HD7 := Aside0.mk rd; have hz7 := blk_kept (g := w6.heap.size) (o := .cells #[.int .i64 0, .int .i64 0, .slice none 0 0] 55 (0, 0)) (by first | exact heap_alloc_new _ _ | exact blk_drew (heap_alloc_new _ _) | exact blk_drewN (heap_alloc_new _ _) _) hk (pmail_not (b := w6.heap.size) (t := 55) (cells := #[.int .i64 0, .int .i64 0, .slice none 0 0]) (by first | exact heap_alloc_new _ _ | exact blk_drew (heap_alloc_new _ _) | exact blk_drewN (heap_alloc_new _ _) _) (by decide)); have HZ7 := Aside0.mk hz7; clear hz7; have u0 := (show w7.cell? ⟨w6.heap.size, 0, none⟩ = some (.int .i64 0) from blk_cell HZ7.out 0); have uz0 := (show w7.frozen? ⟨w6.heap.size, 0, none⟩ = false from blk_frozen HZ7.out 0); have u1 := (show w7.cell? ⟨w6.heap.size, 1, none⟩ = some (.int .i64 0) from blk_cell HZ7.out 1); have uz1 := (show w7.frozen? ⟨w6.heap.size, 1, none⟩ = false from blk_frozen HZ7.out 1); have u2 := (show w7.cell? ⟨w6.heap.size, 2, none⟩ = some (.slice none 0 0) from blk_cell HZ7.out 2); have uz2 := (show w7.frozen? ⟨w6.heap.size, 2, none⟩ = false from blk_frozen HZ7.out 2); clear rd hk h0 h1 h2 x2 x3 x4; have h0 := (show w7.cell? ⟨hh, 0, none⟩ = some (.int .i64 room) from blk_cell HD7.out.ref 0); have h1 := (show w7.cell? ⟨hh, 1, none⟩ = some (.int .i64 last) from blk_cell HD7.out.ref 1); have h2 := (show w7.cell? ⟨hh, 2, none⟩ = some (.slice A8 m.length c8) from blk_cell HD7.out.ref 2); have x2 := (show w7.cell? ⟨xb, 2, none⟩ = some (.int .i64 q.f2.f0) from blk_cell HD7.out.x 2); have x3 := (show w7.cell? ⟨xb, 3, none⟩ = some (.int .i64 q.f2.f1) from blk_cell HD7.out.x 3); have x4 := (show w7.cell? ⟨xb, 4, none⟩ = some (.string q.f2.f2) from blk_cell HD7.out.x 4))
                              | (go_at_call 29; refine (HS.out _ (below_step HB6.out (by repeat (first | (with_reducible first | exact Below.refl _ _ | apply below_alloc | apply pw_below_drewN | apply below_drew1) | exact Below.refl _ _)))).mono ?_; rintro e w7 ⟨A2, n2, he, rd, hk⟩; subst he; have HD7 := Aside0.mk rd; clear rd hk h0 h1 h2 x2 x3 x4; have h0 := (show w7.cell? ⟨hh, 0, none⟩ = some (.int .i64 room) from blk_cell HD7.out.ref 0); have h1 := (show w7.cell? ⟨hh, 1, none⟩ = some (.int .i64 last) from blk_cell HD7.out.ref 1); have h2 := (show w7.cell? ⟨hh, 2, none⟩ = some (.slice A8 m.length c8) from blk_cell HD7.out.ref 2); have x2 := (show w7.cell? ⟨xb, 2, none⟩ = some (.int .i64 q.f2.f0) from blk_cell HD7.out.x 2); have x3 := (show w7.cell? ⟨xb, 3, none⟩ = some (.int .i64 q.f2.f1) from blk_cell HD7.out.x 3); have x4 := (show w7.cell? ⟨xb, 4, none⟩ = some (.string q.f2.f2) from blk_cell HD7.out.x 4); have n1w7 := World.new_ne w7 _ h0; have n3w7 : ¬ w7.heap.size = hh := fun e => n1w7 e; have n2w7 := World.new_ne w7 _ x2; have n4w7 : ¬ w7.heap.size = xb := fun e => n2w7 e))
                          all_goals
                            (try go_wp2_with fail)
                            go_meet
                            case rel =>
                              have hlt := HLT.out
                              have hgw := HGW.out
                              first
                              | exact ⟨W5.heap.size, A2, n2, rfl, rfl, rfl, ⟨(set3 HZ7.out _ _ _).1⟩, ⟨HD7.out.setAll HZ7.out (by omega) hgw _ _ _⟩⟩
                              | exact ⟨w6.heap.size, A2, n2, rfl, rfl, rfl, ⟨(set3 HZ7.out _ _ _).1⟩, ⟨HD7.out.setAll HZ7.out (by have := HSZ6.out; omega) (by have := HSZ6.out; omega) _ _ _⟩⟩
                              | exact ⟨w7.heap.size, A2, n2, rfl, rfl, rfl, ⟨heap_alloc_new _ _⟩, ⟨HD7.out.below (below_alloc (Below.refl _ _) _)⟩⟩
                              | (trace_state; fail)
                        case rest =>
                          obtain ⟨tb, A2, n2, rfl, rfl, rfl, HT8, HD8⟩ := hcut
                          clear h0 h1 h2 x0 x1 x2 x3 x4
                          have t0 := (show wc.cell? ⟨tb, 0, none⟩ = some (.int .i64 room) from blk_cell HT8.out 0)
                          have t1 := (show wc.cell? ⟨tb, 1, none⟩ = some (.int .i64 (sendL room last m q.f2)) from blk_cell HT8.out 1)
                          have t2 := (show wc.cell? ⟨tb, 2, none⟩ = some (.slice A2 (sendM room last m q.f2).length n2) from blk_cell HT8.out 2)
                          go_wp2_with (refine store_own rfl 55 (.tmp 8) (.tmp 109) rfl hh #[.int .i64 room, .int .i64 (sendL room last m q.f2), .slice A2 (sendM room last m q.f2).length n2] rfl rfl 55 _ HD8.out.ref info55z rfl (net_one 0 0 _ _ _ _ _) ?_; intro W9 hW9 hb9 hk9; have HS9 := Aside0.mk (HD8.out.stored HC4.out.ge HNE4.out.1 hW9 hb9 hk9); clear hW9 hb9 hk9 HD8 HT8 t0 t1 t2; have x0 := (show W9.cell? ⟨xb, 0, none⟩ = some (.int .i64 K) from blk_cell HS9.out.x 0); have x1 := (show W9.cell? ⟨xb, 1, none⟩ = some (.int .i64 I) from blk_cell HS9.out.x 1); have x2 := (show W9.cell? ⟨xb, 2, none⟩ = some (.int .i64 q.f2.f0) from blk_cell HS9.out.x 2); have x3 := (show W9.cell? ⟨xb, 3, none⟩ = some (.int .i64 q.f2.f1) from blk_cell HS9.out.x 3); have x4 := (show W9.cell? ⟨xb, 4, none⟩ = some (.string q.f2.f2) from blk_cell HS9.out.x 4))

                          refine (HS9.out.net.Send_s (HC4.out.lo (by omega)).2 q.f2).mono ?_
                          rintro e W10 ⟨rfl, d⟩
                          have HC10 := Aside0.mk (HS9.out.done (i := i) HC4.out.ge d (sendLM i HC4.out.la HC4.out.ml q.f2).1 (sendLM i HC4.out.la HC4.out.ml q.f2 (room := room) (last := last)).2)
                          clear d HS9 x0 x1 x2 x3 x4 HS
                          go_wp2_with fail
                          go_meet
                          case rel => exact ⟨_, _, _, _, HC10⟩

                    by_cases k1 : K = 1
                    · as_aux_lemma =>
                        have e1 : (K == 1) = true := by simp [k1]
                        have e0 : (K == 0) = false := by simp [k0]
                        clear k0 k1
                        have HWF2 := Aside0.mk (Go.WalkArith.wf_i64 HI.out)
                        have HF := Aside0.mk (refFind HC4.out.row (HC4.out.len (by omega)) room last I)
                        obtain ⟨y, hy⟩ : ∃ y, y = (atN m I).getD gz := ⟨_, rfl⟩
                        have HY := Aside0.mk hy
                        clear hy
                        go_wp2_with fail
                        refine HF.out.mono ?_
                        rintro e w5 ⟨rfl, hb5⟩
                        have hsz5 := hb5.size
                        have HX5 := Aside0.mk (blk_below HX4.out hb5)
                        have HC5 := Aside0.mk (HC4.out.below hb5)
                        have HRO := Aside0.mk (show ¬ some w5.heap.size = (Value.slice A8 m.length c8).ownBlock from fun e => by have := (HC4.out.row.blkAt e).2; omega)
                        have HXL := Aside0.mk (show xb ≠ w5.heap.size from Nat.ne_of_lt (blk_lt HX5.out))
                        have HYH := Aside0.mk (show w5.heap.size ≠ hh from Ne.symm (Nat.ne_of_lt (blk_lt HC5.out.ref)))
                        have HGE5 := Aside0.mk (show w.heap.size ≤ w5.heap.size from HC5.out.net.bel.size)
                        clear hb5 hsz5 HF h0 h1 h2 x0 x1 x2 x3 x4
                        go_upto_if 132 with fail
                        have HT6 := Aside0.mk (heap_alloc_new w5 (.cells #[.int .i64 0, .int .i64 0, .int .i64 0, .string ⟨#[]⟩] 59))
                        have HC6 := Aside0.mk (HC5.out.below (below_alloc (Below.refl _ _) (.cells #[.int .i64 0, .int .i64 0, .int .i64 0, .string ⟨#[]⟩] 59)))
                        have HX6 := Aside0.mk (blk_alloc HX5.out (.cells #[.int .i64 0, .int .i64 0, .int .i64 0, .string ⟨#[]⟩] 59))
                        clear HX5 HC5
                        generalize w5.alloc (.cells #[.int .i64 0, .int .i64 0, .int .i64 0, .string ⟨#[]⟩] 59) = W6 at HT6 HC6 HX6 ⊢
                        generalize w5.heap.size = yb at HT6 HRO HXL HYH HGE5 ⊢
                        go_cut [16] from 50 to 228 (fun v16 wq => Aside0 (PI w wq g b hh i room last m (.slice A8 m.length c8)) ∧ Aside0 (wq.heap[xb]? = some (.cells #[.int .i64 K, .int .i64 I, .int .i64 q.f2.f0, .int .i64 q.f2.f1, .string q.f2.f2] 50 (0, 0))) ∧ Aside0 (wq.heap[yb]? = some (.cells #[.int .i64 0, .int .i64 y.f0, .int .i64 y.f1, .string y.f2] 59 (0, 0))))
                        case first =>
                          match hx : atN m I with
                          | none =>
                            rw [findN_no hx]
                            have hy : y = gz := by rw [HY.out, hx]; rfl
                            subst hy
                            clear hx
                            go_wp2_with fail
                            go_meet
                            case rel => exact ⟨HC6, HX6, HT6⟩
                          | some x =>
                            obtain ⟨j, hj, hf1, hf2⟩ := findN_yes HC6.out.net.rise hx
                            rw [hf1]
                            have hy : y = x := by rw [HY.out, hx]; rfl
                            subst hy
                            have hjl : ((j : Int) < (m.length : Int)) := by omega
                            have hj0 : (0 ≤ (j : Int)) = True := eq_true (by omega)
                            have h2 := (show W6.cell? ⟨hh, 2, none⟩ = some (.slice A8 m.length c8) from blk_cell HC6.out.ref 2)
                            obtain ⟨bd, hB, z0, z1, z2, z3⟩ := at_T59 HC6.out.row.c (j : Int) (by omega) hjl
                            rw [hf2, Int.toNat_natCast] at z0 z1 z2 z3
                            subst hB
                            clear hx hf1 hf2
                            go_wp2_with (refine store_own rfl 59 (.tmp 17) (.tmp 137) rfl yb #[.int .i64 I, .int .i64 y.f0, .int .i64 y.f1, .string y.f2] rfl rfl 59 _ HT6.out info59z rfl (mail_one _ _ _ _) ?_; intro W7 hW7 hb7 hk7; have HT7 := Aside0.mk hW7; have HC7 := Aside0.mk (HC6.out.keepT HT6.out HRO.out hk7 (below_weaken HC6.out.net.bel HGE5.out hb7)); have HX7 := Aside0.mk (hk7.blk HX6.out HXL.out (by simp)); clear hW7 hb7 hk7 h2 z0 z1 z2 z3; have t0 := (show W7.cell? ⟨yb, 0, none⟩ = some (.int .i64 I) from blk_cell HT7.out 0); have tz0 := (show W7.frozen? ⟨yb, 0, none⟩ = false from blk_frozen HT7.out 0))
                            go_meet
                            case rel => exact ⟨⟨HC7.out.keepT HT7.out HRO.out (KeepBut.set_ (KeepBut.refl _ _ _) 0 _) (HC7.out.net.bel.setCell HGE5.out _)⟩, ⟨(show KeepBut W7 (W7.setCell ⟨yb, 0, none⟩ (.int .i64 0)) yb none from KeepBut.set_ (KeepBut.refl _ _ _) 0 _).blk HX7.out HXL.out (by simp)⟩, ⟨blk_put HT7.out 0 _ rfl⟩⟩
                        case rest =>
                          obtain ⟨HC8, HX8, HU6⟩ := hcut
                          clear HC6 HX6 HT6
                          have h0 := (show wc.cell? ⟨hh, 0, none⟩ = some (.int .i64 room) from blk_cell HC8.out.ref 0)
                          have h1 := (show wc.cell? ⟨hh, 1, none⟩ = some (.int .i64 last) from blk_cell HC8.out.ref 1)
                          have h2 := (show wc.cell? ⟨hh, 2, none⟩ = some (.slice A8 m.length c8) from blk_cell HC8.out.ref 2)
                          have x0 := (show wc.cell? ⟨xb, 0, none⟩ = some (.int .i64 K) from blk_cell HX8.out 0)
                          have x1 := (show wc.cell? ⟨xb, 1, none⟩ = some (.int .i64 I) from blk_cell HX8.out 1)
                          have x2 := (show wc.cell? ⟨xb, 2, none⟩ = some (.int .i64 q.f2.f0) from blk_cell HX8.out 2)
                          have x3 := (show wc.cell? ⟨xb, 3, none⟩ = some (.int .i64 q.f2.f1) from blk_cell HX8.out 3)
                          have x4 := (show wc.cell? ⟨xb, 4, none⟩ = some (.string q.f2.f2) from blk_cell HX8.out 4)

                          have HS := Aside0.mk (HC8.out.rlose (by omega) HX8.out (Below.refl _ _) I)
                          go_wp2_with fail
                          refine HS.out.mono ?_
                          rintro e w7 ⟨A2, n2, he, rd, hk⟩
                          subst he
                          have HD7 := Aside0.mk rd
                          have HU7 := Aside0.mk (blk_kept HU6.out hk HRO.out)
                          clear rd hk HS HU6 HC8 HX8 h0 h1 h2 x0 x1 x2 x3 x4
                          go_upto_region 31 with fail
                          have HT8 := Aside0.mk (heap_alloc_new w7 (.cells #[.int .i64 room, .int .i64 last, .slice A2 (dropN m I).length n2] 55))
                          have HD8 := Aside0.mk (HD7.out.below (below_alloc (Below.refl _ _) (.cells #[.int .i64 room, .int .i64 last, .slice A2 (dropN m I).length n2] 55)))
                          have HU8 := Aside0.mk (blk_alloc HU7.out (.cells #[.int .i64 room, .int .i64 last, .slice A2 (dropN m I).length n2] 55))
                          clear HU7
                          generalize w7.alloc (.cells #[.int .i64 room, .int .i64 last, .slice A2 (dropN m I).length n2] 55) = W8 at *
                          generalize w7.heap.size = tb at *
                          clear HD7
                          have t0 := (show W8.cell? ⟨tb, 0, none⟩ = some (.int .i64 room) from blk_cell HT8.out 0)
                          have t1 := (show W8.cell? ⟨tb, 1, none⟩ = some (.int .i64 last) from blk_cell HT8.out 1)
                          have t2 := (show W8.cell? ⟨tb, 2, none⟩ = some (.slice A2 (dropN m I).length n2) from blk_cell HT8.out 2)
                          go_wp2_with (refine store_own rfl 55 (.tmp 8) (.tmp 146) rfl hh #[.int .i64 room, .int .i64 last, .slice A2 (dropN m I).length n2] rfl rfl 55 _ HD8.out.ref info55z rfl (net_one 0 0 _ _ _ _ _) ?_; intro W9 hW9 hb9 hk9; have HS9 := Aside0.mk (HD8.out.stored HC4.out.ge HNE4.out.1 hW9 hb9 hk9); have HU9 := Aside0.mk (hk9.blk HU8.out HYH.out (by simp)); clear HU8; clear hW9 hb9 hk9 HD8 HT8 t0 t1 t2; have x0 := (show W9.cell? ⟨xb, 0, none⟩ = some (.int .i64 K) from blk_cell HS9.out.x 0); have x1 := (show W9.cell? ⟨xb, 1, none⟩ = some (.int .i64 I) from blk_cell HS9.out.x 1); have x2 := (show W9.cell? ⟨xb, 2, none⟩ = some (.int .i64 q.f2.f0) from blk_cell HS9.out.x 2); have x3 := (show W9.cell? ⟨xb, 3, none⟩ = some (.int .i64 q.f2.f1) from blk_cell HS9.out.x 3); have x4 := (show W9.cell? ⟨xb, 4, none⟩ = some (.string q.f2.f2) from blk_cell HS9.out.x 4))

                          have HL := Aside0.mk (HS9.out.net.Take_any I HWF2.out)
                          rw [← HY.out] at HL
                          go_wp2_with fail
                          refine HL.out.mono ?_
                          rintro e W10 ⟨he, d⟩
                          subst he
                          have HC10 := Aside0.mk (HS9.out.done (i := i) HC4.out.ge d (by have := HC4.out.la; omega) (by have := dropN_le m I; have := HC4.out.ml; omega))
                          have HU10 := Aside0.mk (blk_kept HU9.out d.kept (footN_not HU9.out (by decide)))
                          clear d HS9 HU9 x0 x1 x2 x3 x4 HL
                          go_upto_region 33 with fail
                          have HV11 := Aside0.mk (heap_alloc_new W10 (.cells #[.int .i64 y.f0, .int .i64 y.f1, .string y.f2] 41))
                          have HC11 := Aside0.mk (HC10.out.below (below_alloc (Below.refl _ _) (.cells #[.int .i64 y.f0, .int .i64 y.f1, .string y.f2] 41)))
                          have HU11 := Aside0.mk (blk_alloc HU10.out (.cells #[.int .i64 y.f0, .int .i64 y.f1, .string y.f2] 41))
                          clear HC10 HU10
                          generalize W10.alloc (.cells #[.int .i64 y.f0, .int .i64 y.f1, .string y.f2] 41) = W11 at HV11 HC11 HU11 ⊢
                          generalize W10.heap.size = vb at HV11 ⊢
                          have HK := Aside0.mk (fun (W' : World) (hb : Below W11.heap.size W11 W') => And.intro (show W'.cell? ⟨vb, 0, none⟩ = some (.int .i64 y.f0) ∧ W'.cell? ⟨vb, 1, none⟩ = some (.int .i64 y.f1) ∧ W'.cell? ⟨vb, 2, none⟩ = some (.string y.f2) from ⟨blk_cell (blk_below HV11.out hb) 0, blk_cell (blk_below HV11.out hb) 1, blk_cell (blk_below HV11.out hb) 2⟩) (show W'.cell? ⟨yb, 0, none⟩ = some (.int .i64 0) ∧ W'.cell? ⟨yb, 1, none⟩ = some (.int .i64 y.f0) ∧ W'.cell? ⟨yb, 2, none⟩ = some (.int .i64 y.f1) ∧ W'.cell? ⟨yb, 3, none⟩ = some (.string y.f2) from ⟨blk_cell (blk_below HU11.out hb) 0, blk_cell (blk_below HU11.out hb) 1, blk_cell (blk_below HU11.out hb) 2, blk_cell (blk_below HU11.out hb) 3⟩))
                          go_cut [162] from 50 to 228 (fun v162 wq => v162 = .bool false ∧ Aside0 (Below W11.heap.size W11 wq))
                          case first =>
                            obtain ⟨⟨v0, v1, v2⟩, ⟨u0, u1, u2, u3⟩⟩ := HK.out W11 (Below.refl _ _)
                            go_region_held3 (fun w' => w'.cell? ⟨vb, 0, none⟩ = some (.int .i64 y.f0) ∧ w'.cell? ⟨vb, 1, none⟩ = some (.int .i64 y.f1) ∧ w'.cell? ⟨vb, 2, none⟩ = some (.string y.f2) ∧ w'.cell? ⟨yb, 0, none⟩ = some (.int .i64 0) ∧ w'.cell? ⟨yb, 1, none⟩ = some (.int .i64 y.f0) ∧ w'.cell? ⟨yb, 2, none⟩ = some (.int .i64 y.f1) ∧ w'.cell? ⟨yb, 3, none⟩ = some (.string y.f2)) (go_keep)
                              (first
                                | (go_at_call 30; refine (mosaiclaw21_ref.calls y.f0 y.f1 y.f2 0 y.f0 y.f1 y.f2 _ rfl).mono ?_; rintro e w12 ⟨he, hb12⟩; subst he; have HB12 := Aside0.mk (below_step (by repeat (first | (with_reducible first | exact Below.refl _ _ | apply below_alloc | apply pw_below_drewN | apply below_drew1) | exact Below.refl _ _)) hb12 : Below W11.heap.size W11 w12); clear hb12 v0 v1 v2 u0 u1 u2 u3; obtain ⟨⟨v0, v1, v2⟩, ⟨u0, u1, u2, u3⟩⟩ := HK.out w12 HB12.out))
                            all_goals
                              (try go_wp2_with fail)
                              go_meet
                              case rel => exact ⟨by simp, ⟨below_step HB12.out (by repeat (first | (with_reducible first | exact Below.refl _ _ | apply below_alloc | apply pw_below_drewN | apply below_drew1) | exact Below.refl _ _))⟩⟩
                          case rest =>
                            obtain ⟨rfl, HB12⟩ := hcut
                            have HC12 := Aside0.mk (HC11.out.below HB12.out)
                            clear HK HB12 HC11
                            go_wp2_with fail
                            go_meet
                            case rel => exact ⟨_, _, _, _, HC12⟩
                    by_cases k2 : K = 2
                    · as_aux_lemma =>
                        have e2 : (K == 2) = true := by simp [k2]
                        have e0 : (K == 0) = false := by simp [k0]
                        have e1 : (K == 1) = false := by simp [k1]
                        clear k0 k1 k2
                        have HWF2 := Aside0.mk (Go.WalkArith.wf_i64 HI.out)
                        have HS := Aside0.mk (HC4.out.rlose (by omega) HX4.out (Below.refl _ _) I)
                        go_wp2_with fail
                        refine HS.out.mono ?_
                        rintro e w7 ⟨A2, n2, he, rd, hk⟩
                        subst he
                        have HD7 := Aside0.mk rd
                        clear rd hk HS h0 h1 h2 x0 x1 x2 x3 x4
                        go_upto_region 37 with fail
                        have HT8 := Aside0.mk (heap_alloc_new w7 (.cells #[.int .i64 room, .int .i64 last, .slice A2 (dropN m I).length n2] 55))
                        have HD8 := Aside0.mk (HD7.out.below (below_alloc (Below.refl _ _) (.cells #[.int .i64 room, .int .i64 last, .slice A2 (dropN m I).length n2] 55)))
                        generalize w7.alloc (.cells #[.int .i64 room, .int .i64 last, .slice A2 (dropN m I).length n2] 55) = W8 at *
                        generalize w7.heap.size = tb at *
                        clear HD7
                        have t0 := (show W8.cell? ⟨tb, 0, none⟩ = some (.int .i64 room) from blk_cell HT8.out 0)
                        have t1 := (show W8.cell? ⟨tb, 1, none⟩ = some (.int .i64 last) from blk_cell HT8.out 1)
                        have t2 := (show W8.cell? ⟨tb, 2, none⟩ = some (.slice A2 (dropN m I).length n2) from blk_cell HT8.out 2)
                        go_wp2_with (refine store_own rfl 55 (.tmp 8) (.tmp 172) rfl hh #[.int .i64 room, .int .i64 last, .slice A2 (dropN m I).length n2] rfl rfl 55 _ HD8.out.ref info55z rfl (net_one 0 0 _ _ _ _ _) ?_; intro W9 hW9 hb9 hk9; have HS9 := Aside0.mk (HD8.out.stored HC4.out.ge HNE4.out.1 hW9 hb9 hk9); clear hW9 hb9 hk9 HD8 HT8 t0 t1 t2; have x0 := (show W9.cell? ⟨xb, 0, none⟩ = some (.int .i64 K) from blk_cell HS9.out.x 0); have x1 := (show W9.cell? ⟨xb, 1, none⟩ = some (.int .i64 I) from blk_cell HS9.out.x 1); have x2 := (show W9.cell? ⟨xb, 2, none⟩ = some (.int .i64 q.f2.f0) from blk_cell HS9.out.x 2); have x3 := (show W9.cell? ⟨xb, 3, none⟩ = some (.int .i64 q.f2.f1) from blk_cell HS9.out.x 3); have x4 := (show W9.cell? ⟨xb, 4, none⟩ = some (.string q.f2.f2) from blk_cell HS9.out.x 4))

                        have HL := Aside0.mk (HS9.out.net.Lose_any I HWF2.out)
                        go_wp2_with fail
                        refine HL.out.mono ?_
                        rintro e W10 ⟨rfl, d⟩
                        have HC10 := Aside0.mk (HS9.out.done (i := i) HC4.out.ge d (by have := HC4.out.la; omega) (by have := dropN_le m I; have := HC4.out.ml; omega))
                        clear d HS9 x0 x1 x2 x3 x4 HL
                        go_wp2_with fail
                        go_meet
                        case rel => exact ⟨_, _, _, _, HC10⟩
                    by_cases k3 : K = 3
                    · as_aux_lemma =>
                        have e3 : (K == 3) = true := by simp [k3]
                        have e0 : (K == 0) = false := by simp [k0]
                        have e1 : (K == 1) = false := by simp [k1]
                        have e2 : (K == 2) = false := by simp [k2]
                        clear k0 k1 k2 k3
                        have HWF2 := Aside0.mk (Go.WalkArith.wf_i64 HI.out)
                        have HS := Aside0.mk (HC4.out.rtwice (by omega) HX4.out (Below.refl _ _) I)
                        go_wp2_with fail
                        refine HS.out.mono ?_
                        rintro e w7 ⟨A2, n2, he, rd⟩
                        subst he
                        have HD7 := Aside0.mk rd
                        clear rd HS h0 h1 h2 x0 x1 x2 x3 x4
                        go_upto_region 42 with fail
                        have HT8 := Aside0.mk (heap_alloc_new w7 (.cells #[.int .i64 room, .int .i64 (twiceL room last m I), .slice A2 (twiceM room last m I).length n2] 55))
                        have HD8 := Aside0.mk (HD7.out.below (below_alloc (Below.refl _ _) (.cells #[.int .i64 room, .int .i64 (twiceL room last m I), .slice A2 (twiceM room last m I).length n2] 55)))
                        generalize w7.alloc (.cells #[.int .i64 room, .int .i64 (twiceL room last m I), .slice A2 (twiceM room last m I).length n2] 55) = W8 at *
                        generalize w7.heap.size = tb at *
                        clear HD7
                        have t0 := (show W8.cell? ⟨tb, 0, none⟩ = some (.int .i64 room) from blk_cell HT8.out 0)
                        have t1 := (show W8.cell? ⟨tb, 1, none⟩ = some (.int .i64 (twiceL room last m I)) from blk_cell HT8.out 1)
                        have t2 := (show W8.cell? ⟨tb, 2, none⟩ = some (.slice A2 (twiceM room last m I).length n2) from blk_cell HT8.out 2)
                        go_wp2_with (refine store_own rfl 55 (.tmp 8) (.tmp 189) rfl hh #[.int .i64 room, .int .i64 (twiceL room last m I), .slice A2 (twiceM room last m I).length n2] rfl rfl 55 _ HD8.out.ref info55z rfl (net_one 0 0 _ _ _ _ _) ?_; intro W9 hW9 hb9 hk9; have HS9 := Aside0.mk (HD8.out.stored HC4.out.ge HNE4.out.1 hW9 hb9 hk9); clear hW9 hb9 hk9 HD8 HT8 t0 t1 t2; have x0 := (show W9.cell? ⟨xb, 0, none⟩ = some (.int .i64 K) from blk_cell HS9.out.x 0); have x1 := (show W9.cell? ⟨xb, 1, none⟩ = some (.int .i64 I) from blk_cell HS9.out.x 1); have x2 := (show W9.cell? ⟨xb, 2, none⟩ = some (.int .i64 q.f2.f0) from blk_cell HS9.out.x 2); have x3 := (show W9.cell? ⟨xb, 3, none⟩ = some (.int .i64 q.f2.f1) from blk_cell HS9.out.x 3); have x4 := (show W9.cell? ⟨xb, 4, none⟩ = some (.string q.f2.f2) from blk_cell HS9.out.x 4))

                        have HL := Aside0.mk (HS9.out.net.Twice_s (HC4.out.lo (by omega)).2 I HWF2.out)
                        go_wp2_with fail
                        refine HL.out.mono ?_
                        rintro e W10 ⟨rfl, d⟩
                        have HC10 := Aside0.mk (HS9.out.done (i := i) HC4.out.ge d (twiceLM i HC4.out.la HC4.out.ml I).1 (twiceLM i HC4.out.la HC4.out.ml I (room := room) (last := last)).2)
                        clear d HS9 x0 x1 x2 x3 x4 HL
                        go_wp2_with fail
                        go_meet
                        case rel => exact ⟨_, _, _, _, HC10⟩
                    have e0 : (K == 0) = false := by simp [k0]
                    have e1 : (K == 1) = false := by simp [k1]
                    have e2 : (K == 2) = false := by simp [k2]
                    have e3 : (K == 3) = false := by simp [k3]
                    clear k0 k1 k2 k3
                    go_wp2_with fail
                    go_meet
                    case rel => exact ⟨last, m, A8, c8, ⟨HC4.out.next⟩⟩
                  case rest =>
                    obtain ⟨last2, m2, A2, n2, HC5⟩ := hcut
                    clear HC4 HX4 HI
                    as_aux_lemma =>
                      have HK := Aside0.mk (fun (W' : World) (hb : Below wc.heap.size wc W') => And.intro (show W'.cell? ⟨hh, 0, none⟩ = some (.int .i64 room) from blk_cell (blk_below HC5.out.ref hb) 0) (And.intro (show W'.cell? ⟨hh, 1, none⟩ = some (.int .i64 last2) from blk_cell (blk_below HC5.out.ref hb) 1) (show W'.cell? ⟨hh, 2, none⟩ = some (.slice A2 m2.length n2) from blk_cell (blk_below HC5.out.ref hb) 2)))
                      have HLIST := Aside0.mk (fun (W' : World) (hb : Below wc.heap.size wc W') => (HC5.out.net.below hb).List_c (HC5.out.len (by omega)) (HC5.out.lo (by omega)).2)
                      have HLEN := Aside0.mk (fun (W' : World) (hb : Below wc.heap.size wc W') => (HC5.out.net.below hb).Len_any)
                      have HTO := Aside0.mk (fun (W' : World) (hb : Below wc.heap.size wc W') => (HC5.out.net.below hb).To_c (HC5.out.len (by omega)) node)
                      have HRTO := Aside0.mk (fun (W' : World) (hb : Below wc.heap.size wc W') => (HC5.out.row.below hb).To_c (HC5.out.len (by omega)) room last2 node)
                      have HLL := Aside0.mk (show (idsN (fun x => x.f1 == node) m2).length < 1000000 by have := idsN_len (fun x => x.f1 == node) m2; have := HC5.out.len (by omega); omega)
                      have HML := Aside0.mk (HC5.out.len (by omega))
                      generalize idsN (fun x => x.f1 == node) m2 = li at HTO HRTO HLL
                      go_upto_region 46 with fail
                      go_cut [228] from 50 to 228 (fun v228 wq => v228 = .bool false ∧ Aside0 (Below wc.heap.size wc wq))
                      case first =>
                        obtain ⟨h0, h1, h2⟩ := HK.out wc (Below.refl _ _)
                        go_region_held3 (fun w' => w'.cell? ⟨hh, 0, none⟩ = some (.int .i64 room) ∧ w'.cell? ⟨hh, 1, none⟩ = some (.int .i64 last2) ∧ w'.cell? ⟨hh, 2, none⟩ = some (.slice A2 m2.length n2)) (go_keep)
                          (first
                            | (go_at_call 35; refine (HLIST.out _ (by repeat (first | (with_reducible first | exact Below.refl _ _ | apply below_alloc | apply pw_below_drewN | apply below_drew1) | exact Below.refl _ _))).mono ?_; rintro e w1 ⟨A3, n3, he, hr, hb⟩; subst he; have HM1 := Aside0.mk hr; have HB1 := Aside0.mk (below_step (by repeat (first | (with_reducible first | exact Below.refl _ _ | apply below_alloc | apply pw_below_drewN | apply below_drew1) | exact Below.refl _ _)) hb : Below wc.heap.size wc w1); clear hr hb h0 h1 h2; obtain ⟨h0, h1, h2⟩ := HK.out w1 HB1.out)
                            | (go_at_call 34; refine (refSame (Kd.C_below HM1.out (by repeat (first | (with_reducible first | exact Below.refl _ _ | apply below_alloc | apply pw_below_drewN | apply below_drew1) | exact Below.refl _ _))) (HC5.out.row.below (below_step HB1.out (by repeat (first | (with_reducible first | exact Below.refl _ _ | apply below_alloc | apply pw_below_drewN | apply below_drew1) | exact Below.refl _ _)))).c HML.out).mono ?_; rintro e w2 ⟨he, hb⟩; subst he; have HB2 := Aside0.mk (below_step (below_step HB1.out (by repeat (first | (with_reducible first | exact Below.refl _ _ | apply below_alloc | apply pw_below_drewN | apply below_drew1) | exact Below.refl _ _))) hb : Below wc.heap.size wc w2); clear hb h0 h1 h2; obtain ⟨h0, h1, h2⟩ := HK.out w2 HB2.out)
                            | (go_at_call 25; refine (HLEN.out _ (below_step HB2.out (by repeat (first | (with_reducible first | exact Below.refl _ _ | apply below_alloc | apply pw_below_drewN | apply below_drew1) | exact Below.refl _ _)))).mono ?_; rintro e w3 ⟨he, hw⟩; subst he; subst hw)
                            | (go_at_call 37; refine (HTO.out _ (below_step HB2.out (by repeat (first | (with_reducible first | exact Below.refl _ _ | apply below_alloc | apply pw_below_drewN | apply below_drew1) | exact Below.refl _ _)))).mono ?_; rintro e w4 ⟨A4, n4, he, hr, hb⟩; subst he; have HM4 := Aside0.mk hr; have HB4 := Aside0.mk (below_step (below_step HB2.out (by repeat (first | (with_reducible first | exact Below.refl _ _ | apply below_alloc | apply pw_below_drewN | apply below_drew1) | exact Below.refl _ _))) hb : Below wc.heap.size wc w4); clear hr hb h0 h1 h2; obtain ⟨h0, h1, h2⟩ := HK.out w4 HB4.out)
                            | (go_at_call 38; refine (HRTO.out _ (below_step HB4.out (by repeat (first | (with_reducible first | exact Below.refl _ _ | apply below_alloc | apply pw_below_drewN | apply below_drew1) | exact Below.refl _ _)))).mono ?_; rintro e w5 ⟨A5, n5, he, hr, hb⟩; subst he; have HM5 := Aside0.mk hr; have hb5 := (below_step (by repeat (first | (with_reducible first | exact Below.refl _ _ | apply below_alloc | apply pw_below_drewN | apply below_drew1) | exact Below.refl _ _)) hb : Below w4.heap.size w4 w5); have HM45 := Aside0.mk (And.intro (Kd.C_below HM4.out.1 hb5) HM4.out.2); have HB5 := Aside0.mk (below_step HB4.out hb5 : Below wc.heap.size wc w5); clear hr hb hb5 h0 h1 h2; obtain ⟨h0, h1, h2⟩ := HK.out w5 HB5.out)
                            | (go_at_call 36; refine (sameL_calls (And.intro (Kd.C_below HM45.out.1 (by repeat (first | (with_reducible first | exact Below.refl _ _ | apply below_alloc | apply pw_below_drewN | apply below_drew1) | exact Below.refl _ _))) HM45.out.2) (And.intro (Kd.C_below HM5.out.1 (by repeat (first | (with_reducible first | exact Below.refl _ _ | apply below_alloc | apply pw_below_drewN | apply below_drew1) | exact Below.refl _ _))) HM5.out.2) HLL.out).mono ?_; rintro e w6 ⟨he, hb⟩; subst he; have HB6 := Aside0.mk (below_step (below_step HB5.out (by repeat (first | (with_reducible first | exact Below.refl _ _ | apply below_alloc | apply pw_below_drewN | apply below_drew1) | exact Below.refl _ _))) hb : Below wc.heap.size wc w6); clear hb h0 h1 h2; obtain ⟨h0, h1, h2⟩ := HK.out w6 HB6.out))
                        all_goals
                          (try go_wp2_with fail)
                          go_meet
                          case rel => exact ⟨rfl, ⟨below_step HB6.out (by repeat (first | (with_reducible first | exact Below.refl _ _ | apply below_alloc | apply pw_below_drewN | apply below_drew1) | exact Below.refl _ _))⟩⟩
                      case rest =>
                        obtain ⟨rfl, HB7⟩ := hcut
                        have HC7 := Aside0.mk (HC5.out.below HB7.out)
                        clear HK HLIST HLEN HTO HRTO HLL HML HB7 HC5
                        go_wp2_with fail
                        go_roundg gg
                        case measure => omega
                        case rel => exact ⟨i + 1, last2, m2, A2, n2, by go_num, ⟨by have := HG.out; omega⟩, HC7⟩
          · go_wp2
            go_ret
            exact ⟨rfl, HC.out.net.bel⟩
        · go_wp2
          go_ret
          exact ⟨rfl, HC.out.net.bel⟩
    · as_aux_lemma =>
        have HRO := Aside0.mk hroom
        by_cases h1 : room < 1
        · go_enter Try.func6, Try.ntmps6
          go_wp2_with fail
          refine (New_no room _ HRO.out).mono ?_
          rintro e W1 ⟨rfl, hb⟩
          have HB := Aside0.mk hb
          clear hb
          go_wp2_with fail
          refine (awake21 _).mono ?_
          rintro e W3 ⟨rfl, hb⟩
          have HB3 := Aside0.mk (below_step HB.out hb)
          clear hb
          go_wp2_with fail
          go_ret
          exact ⟨rfl, HB3.out⟩
        · have h2 : 600 < room := by omega
          clear hroom
          go_enter Try.func6, Try.ntmps6
          go_wp2_with fail
          refine (New_no room _ HRO.out).mono ?_
          rintro e W1 ⟨rfl, hb⟩
          have HB := Aside0.mk hb
          clear hb
          go_wp2_with fail
          refine (awake21 _).mono ?_
          rintro e W3 ⟨rfl, hb⟩
          have HB3 := Aside0.mk (below_step HB.out hb)
          clear hb
          go_wp2_with fail
          go_ret
          exact ⟨rfl, HB3.out⟩
  · cases h
end Go.Proofs.Ytcddajdjmlmpdaa.Print
