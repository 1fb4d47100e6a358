/- The law StoreFull, by hand. -/
-- MANUAL mosaic/mosaiclaw14.StoreFull making plain
import Derived.Test.YtcddajdjmlmpdaaPrK
import Derived.Test.YtcddajdjmlmpdaaMaMaps1
import Derived.Test.YtcddajdjmlmpdaaMaNet2
import Derived.Test.YtcddajdjmlmpdaaMaStore3
import Derived.Test.YtcddajdjmlmpdaaMaStore4
import Derived.Test.YtcddajdjmlmpdaaMaStore5
import Derived.Test.YtcddajdjmlmpdaaMaStore6
import Derived.Test.YtcddajdjmlmpdaaMaStore7
import Derived.Test.YtcddajdjmlmpdaaMaStore7
import Derived.Test.YtcddajdjmlmpdaaPureW
import Derived.IntWalk
import Derived.BigQuiet
import Derived.Deep.QuietTactic
import Derived.Deep.RegionLaw
import Derived.Deep.RegionHeld3
import Derived.Deep.DeepCutAuto
import Derived.RegionTactic
import Derived.Outline
import Derived.Laws.CopyOwn
namespace Go.Proofs.Ytcddajdjmlmpdaa.Print
open Go.RowKit Go.Proofs.YtcddajdjmlmpdaaW.PrintWords Go.Proofs.YtcddajdjmlmpdaaW.PrintLast Go.Proofs.YtcddajdjmlmpdaaW.PrintMore
set_option linter.unusedVariables false
set_option linter.unusedSimpArgs false

/-- An entry of the store's, behind so many. -/
def entN (k : Nat) : En := { enE (1 + (k : Int) % 15) k with f0 := (k : Int) + 1 }
def fullS (i : Nat) : List En := (List.range i).map entN
theorem fullS_succ (i : Nat) : fullS (i + 1) = fullS i ++ [entN i] := by
  unfold fullS
  rw [List.range_succ, List.map_append]
  rfl
theorem fullS_len {m : SMs} {i : Nat} (h : m.map (·.1) = fullS i) : m.length = i := by
  have := congrArg List.length h
  simpa [fullS] using this
theorem fullS_seed {m : SMs} {i : Nat} (h : m.map (·.1) = fullS i) {p : En × Value} (hp : p ∈ m) : ∃ k, k < i ∧ p.1 = entN k := by
  have h1 : p.1 ∈ m.map (·.1) := List.mem_map.2 ⟨p, hp, rfl⟩
  rw [h] at h1
  unfold fullS at h1
  obtain ⟨k, hk, e⟩ := List.mem_map.1 h1
  exact ⟨k, List.mem_range.1 hk, e.symm⟩
theorem fullS_no {m : SMs} {i : Nat} (h : m.map (·.1) = fullS i) (q t : Int) (ht : (i : Int) ≤ t) : thereS m (enE q t) = false := by
  refine List.any_eq_false.2 (fun p hp => ?_)
  obtain ⟨k, hk, e⟩ := fullS_seed h hp
  rw [e]
  have := sameK_ne (p := 1 + (k : Int) % 15) (q := q) (s := (k : Int)) (t := t) (i := (k : Int) + 1) (by omega)
  unfold entN
  rw [this]
  simp
theorem fullS_at {m : SMs} {i : Nat} (h : m.map (·.1) = fullS i) (k : Nat) (hk : k < i) : ∃ p ∈ m, p.1 = entN k := by
  have h1 : entN k ∈ m.map (·.1) := by
    rw [h]
    exact List.mem_map.2 ⟨k, List.mem_range.2 hk, rfl⟩
  obtain ⟨p, hp, e⟩ := List.mem_map.1 h1
  exact ⟨p, hp, e⟩
theorem fullS_yes {m : SMs} {i : Nat} (h : m.map (·.1) = fullS i) (hi : 0 < i) : thereS m (enE 1 0) = true := by
  obtain ⟨p, hp, e⟩ := fullS_at h 0 hi
  refine List.any_eq_true.2 ⟨p, hp, ?_⟩
  rw [e]
  rfl
theorem thereS_drop {m : SMs} {x : En} {id : Int} (h : thereS m x = false) : thereS (dropS m id) x = false :=
  List.any_eq_false.2 (fun p hp => List.any_eq_false.1 h p (List.mem_filter.1 hp).1)
theorem dropS_len {m : SMs} {id : Int} {p : En × Value} (hr : (m.map (·.1.f0)).Pairwise (· < ·)) (h : atS m id = some p) : (dropS m id).length + 1 = m.length := by
  obtain ⟨hp, hi⟩ := atS_some h
  obtain ⟨j, hj⟩ := List.mem_iff_getElem?.1 hp
  have h1 := filter_erase (fun p : En × Value => p.1.f0) m j _ (pw_nodup hr) hj
  have h2 := (List.getElem?_eq_some_iff.1 hj).1
  rw [hi] at h1
  unfold dropS
  rw [← h1, List.length_eraseIdx_of_lt h2]
  omega
theorem fullS_drop {m : SMs} {i : Nat} (h : m.map (·.1) = fullS i) (k : Nat) (hk : k < i) : ∃ p, atS m ((k : Int) + 1) = some p := by
  obtain ⟨p, hp, e⟩ := fullS_at h k hk
  match hx : atS m ((k : Int) + 1) with
  | some q => exact ⟨q, rfl⟩
  | none => exact absurd (show p.1.f0 = (k : Int) + 1 by rw [e]; rfl) (atS_none hx p hp)
def mosaiclaw14_StoreFull.f (a0 a1 : Int) : Option Bool := if (-9223372036854775808 ≤ a0 ∧ a0 ≤ 9223372036854775807) ∧ (-9223372036854775808 ≤ a1 ∧ a1 ≤ 9223372036854775807) then some true else none
set_option maxHeartbeats 4000000 in
set_option maxRecDepth 100000 in
theorem mosaiclaw14_StoreFull.calls (room drop : Int) (r : Bool) (w : World) (h : mosaiclaw14_StoreFull.f room drop = some r) :
    Calls Try.prog 3 #[.int .i64 room, .int .i64 drop] w fun e w' => e = .returned (.bool r) ∧ Below w.heap.size w w' := by
  unfold mosaiclaw14_StoreFull.f at h
  split at h
  · rename_i hwf
    obtain rfl := Option.some.inj h
    clear h
    obtain ⟨⟨w1, w2⟩, w3, w4⟩ := hwf
    have HA1 := Aside0.mk (show -400 < room.tmod 400 ∧ room.tmod 400 < 400 by
      have h1 := Int.tmod_lt_of_pos room (show (0 : Int) < 400 by omega)
      have h2 := Int.lt_tmod_of_pos room (show (0 : Int) < 400 by omega)
      omega)
    go_enter Try.func3, Try.ntmps3
    go_upto_region 1 with fail
    go_cut [0] from 16 to 20 (fun v0 wc => ∃ R : Nat, v0 = .int .i64 R ∧ Aside0 (1 ≤ R ∧ R ≤ 400) ∧ wc = w)
    case first =>
      go_wp2_with fail
      go_meet
      case rel =>
        have hq := HA1.out
        generalize room.tmod 400 = q at hq
        have e1 : wrap64 (q + 400) = q + 400 := by unfold wrap64; omega
        have e2 : (q + 400).tmod 400 = (q + 400) % 400 := Int.tmod_eq_emod_of_nonneg (by omega)
        have e3 : wrap64 (1 + (q + 400) % 400) = 1 + (q + 400) % 400 := by unfold wrap64; omega
        rw [e1, e2, e3]
        exact ⟨(1 + (q + 400) % 400).toNat, by rw [Int.toNat_of_nonneg (by omega)], ⟨by omega, by omega⟩, rfl⟩
    case rest =>
    obtain ⟨R, rfl, HR, rfl⟩ := hcut
    go_upto_region 2 with fail
    go_cut [1] from 21 to 28 (fun v1 wd => ∃ K : Nat, v1 = .int .i64 ((K : Int) + 1) ∧ Aside0 (K < R) ∧ wd = wc)
    case first =>
      obtain ⟨hR1, hR2⟩ := HR.out
      have h1 := Int.tmod_lt_of_pos drop (show (0 : Int) < (R : Int) by omega)
      have h2 := Int.lt_tmod_of_pos drop (show (0 : Int) < (R : Int) by omega)
      have hz : ((R : Int) == 0) = false := by simp; omega
      have hov : IntKind.i64.wrap (drop.tmod (R : Int) + (R : Int)) = drop.tmod (R : Int) + (R : Int) := IntWalk.i64_in _ (by omega)
      have h4 := Int.tmod_nonneg (R : Int) (show 0 ≤ drop.tmod (R : Int) + (R : Int) by omega)
      have h5 := Int.emod_nonneg (drop.tmod (R : Int)) (show (R : Int) ≠ 0 by omega)
      have h6 := Int.emod_lt_of_pos (drop.tmod (R : Int)) (show (0 : Int) < (R : Int) by omega)
      go_wp2_with fail
      go_meet
      case rel =>
        have e7 : wrap64 (1 + drop.tmod (R : Int) % (R : Int)) = drop.tmod (R : Int) % (R : Int) + 1 := by unfold wrap64; omega
        exact ⟨(drop.tmod (R : Int) % (R : Int)).toNat, by rw [Int.toNat_of_nonneg h5]; first | (rw [e7]; done) | (rw [Int.add_comm]; done), ⟨by omega⟩, rfl⟩
    case rest =>
    obtain ⟨K, rfl, HK, rfl⟩ := hcut
    go_wp2_with fail
    refine (NewS_yes (R : Int) _ (by have := HR.out; omega) (by have := HR.out; omega)).mono ?_
    rintro e W1 ⟨g, b1, b2, rfl, t⟩
    have T1 := Aside0.mk t
    clear t
    go_wp2_with fail
    refine (awake14 _).mono ?_
    rintro e W2 ⟨rfl, hb⟩
    have T2 := Aside0.mk (T1.out.below hb)
    clear hb T1
    go_wp2_with fail
    go_loopg [6] (R + 1) (fun gg v6 wr => ∃ (i : Nat) (m : SMs), v6 = .int .i64 i ∧ Aside0 (i + gg = R + 1 ∧ i ≤ R) ∧ Aside0 (StAt wc wr g b1 b2 R i m) ∧ Aside0 (m.map (·.1) = fullS i))
    case atStart => exact ⟨0, [], rfl, ⟨by omega, by omega⟩, T2, ⟨rfl⟩⟩
    case round =>
      clear T2
      obtain ⟨i, m, rfl, HG, HT, HM⟩ := hrel
      have hR := HR.out
      have hK := HK.out
      have HLM := Aside0.mk (fullS_len HM.out)
      by_cases hlt : (i : Int) < (R : Int)
      · obtain ⟨gg, rfl⟩ : ∃ z, gk = z + 1 := ⟨gk - 1, by have := HG.out; omega⟩
        have hov : IntKind.i64.wrap ((i : Int) + 1) = (i : Int) + 1 := IntWalk.i64_in _ (by omega)
        have ht : Int.tmod (i : Int) 15 = (i : Int) % 15 := Int.tmod_eq_emod_of_nonneg (by omega)
        have hov3 : IntKind.i64.wrap (1 + (i : Int) % 15) = 1 + (i : Int) % 15 := IntWalk.i64_in _ (by omega)
        go_wp2_with fail
        refine (entry_calls (1 + (i : Int) % 15) (i : Int) _).mono ?_
        rintro e W3 ⟨A3, c3, rfl, hr, hb⟩
        have T3 := Aside0.mk (HT.out.below hb)
        have HR3 := Aside0.mk hr
        clear hb hr HT
        go_wp2_with fail
        refine (T3.out.Add_ok (enE (1 + (i : Int) % 15) i) (RowAp.mine HR3.out T3.out rfl) (Kd.R_reads' HR3.out).2.1 (enE_may _ _ (by omega) (by omega)) (enE_ok _ _ (Go.WalkArith.wf_i64 (by omega)) (Go.WalkArith.wf_i64 (by omega))) (fullS_no HM.out _ _ (by omega)) (by rw [HLM.out]; exact hlt) (by omega)).mono ?_
        rintro e W4 ⟨v, rfl, d⟩
        have T4 := Aside0.mk d.st
        have HM4 := Aside0.mk (show List.map (fun p : En × Value => p.1) (m ++ [(({ enE (1 + (i : Int) % 15) i with f0 := (i : Int) + 1 } : En), v)]) = fullS (i + 1) by rw [List.map_append, HM.out, fullS_succ]; rfl)
        clear d T3 HR3 HM HLM
        go_wp2_with fail
        go_roundg gg
        case measure => omega
        case rel => exact ⟨i + 1, _, by go_num, ⟨by have := HG.out; omega, by omega⟩, T4, HM4⟩
      · obtain rfl : i = R := by have := HG.out; omega
        have hov : IntKind.i64.wrap ((i : Int) + 1) = (i : Int) + 1 := IntWalk.i64_in _ (by omega)
        have hov2 : IntKind.i64.wrap ((i : Int) + 20) = (i : Int) + 20 := IntWalk.i64_in _ (by omega)
        obtain ⟨pk, hpk⟩ := fullS_drop HM.out K hK
        have HPK := Aside0.mk hpk
        have HDL := Aside0.mk (dropS_len HT.out.rise hpk)
        clear hpk
        go_wp2_with fail
        refine (entry_calls 1 ((i : Int) + 20) _).mono ?_
        rintro e W3 ⟨A3, c3, rfl, hr, hb⟩
        have T3 := Aside0.mk (HT.out.below hb)
        have HR3 := Aside0.mk hr
        clear hb hr HT
        go_wp2_with fail
        refine (T3.out.Add_full (enE 1 ((i : Int) + 20)) (RowAp.mine HR3.out T3.out rfl) (Kd.R_reads' HR3.out).2.1 (enE_may _ _ (by omega) (by omega)) (enE_ok _ _ (by decide) (Go.WalkArith.wf_i64 (by omega))) (fullS_no HM.out _ _ (by omega)) (by rw [HLM.out]; omega)).mono ?_
        rintro e W4 ⟨rfl, hb⟩
        have T4 := Aside0.mk (T3.out.below hb)
        clear hb T3 HR3
        go_wp2_with fail
        refine (entry_calls 1 0 _).mono ?_
        rintro e W5 ⟨A5, c5, rfl, hr, hb⟩
        have T5 := Aside0.mk (T4.out.below hb)
        have HR5 := Aside0.mk hr
        clear hb hr T4
        go_wp2_with fail
        refine (T5.out.Add_there (enE 1 0) (RowAp.mine HR5.out T5.out rfl) (Kd.R_reads' HR5.out).2.1 (enE_may _ _ (by omega) (by omega)) (enE_ok _ _ (by decide) (by decide)) (fullS_yes HM.out (by omega))).mono ?_
        rintro e W6 ⟨rfl, hb⟩
        have T6 := Aside0.mk (T5.out.below hb)
        clear hb T5 HR5
        go_wp2_with fail
        refine (T6.out.Drop_any ((K : Int) + 1) (Go.WalkArith.wf_i64 (by omega))).mono ?_
        rw [HPK.out]
        rintro e W7 ⟨he, d⟩
        have he2 : e = .returned (.int .i64 0) := he
        subst he2
        have T7 := Aside0.mk d.st
        clear he d T6
        go_wp2_with fail
        refine (entry_calls 1 ((i : Int) + 20) _).mono ?_
        rintro e W8 ⟨A8, c8, rfl, hr, hb⟩
        have T8 := Aside0.mk (T7.out.below hb)
        have HR8 := Aside0.mk hr
        clear hb hr T7
        go_wp2_with fail
        refine (T8.out.Add_ok (enE 1 ((i : Int) + 20)) (RowAp.mine HR8.out T8.out rfl) (Kd.R_reads' HR8.out).2.1 (enE_may _ _ (by omega) (by omega)) (enE_ok _ _ (by decide) (Go.WalkArith.wf_i64 (by omega))) (thereS_drop (fullS_no HM.out _ _ (by omega))) (by have := HDL.out; rw [HLM.out] at this; omega) (by omega)).mono ?_
        rintro e W9 ⟨v, rfl, d⟩
        have T9 := Aside0.mk d.st
        have hln : ((dropS m ((K : Int) + 1) ++ [({ enE 1 ((i : Int) + 20) with f0 := (i : Int) + 1 }, v)]).length : Int) = (i : Int) := by
          have := HDL.out
          rw [HLM.out] at this
          rw [List.length_append]
          simp
          omega
        have hlc := T9.out.Len_any
        rw [hln] at hlc
        have HL := Aside0.mk hlc
        clear d T8 HR8 hln hlc
        go_wp2_with (go_at_call 17; refine HL.out.mono ?_; rintro e W10 ⟨rfl, rfl⟩)
        go_ret
        exact ⟨rfl, T9.out.bel⟩
  · cases h
end Go.Proofs.Ytcddajdjmlmpdaa.Print
