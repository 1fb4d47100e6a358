/- The law NetFull, by hand. -/
-- MANUAL mosaic/mosaiclaw21.NetFull making plain
import Derived.Test.YtcddajdjmlmpdaaPrK
import Derived.Test.YtcddajdjmlmpdaaMaMaps1
import Derived.Test.YtcddajdjmlmpdaaMaNet1
import Derived.Test.YtcddajdjmlmpdaaMaNet2
import Derived.Test.YtcddajdjmlmpdaaMaNet4
import Derived.Test.YtcddajdjmlmpdaaPr21
import Derived.Test.YtcddajdjmlmpdaaPrE41
import Derived.Test.YtcddajdjmlmpdaaMaNet4
import Derived.Test.YtcddajdjmlmpdaaPrE41
import Derived.Test.YtcddajdjmlmpdaaPureW
import Derived.IntWalk
import Derived.BigQuiet
import Derived.Deep.QuietTactic
import Derived.Deep.RegionLaw
import Derived.Deep.RegionHeld3
import Derived.Deep.DeepCutAuto
import Derived.RegionTactic
import Derived.Outline
import Derived.Laws.CopyOwn
namespace Go.Proofs.Ytcddajdjmlmpdaa.Print
open Go.RowKit Go.Proofs.YtcddajdjmlmpdaaW.PrintWords Go.Proofs.YtcddajdjmlmpdaaW.PrintLast Go.Proofs.YtcddajdjmlmpdaaW.PrintMore
attribute [local go_sem high] eqA41
set_option linter.unusedVariables false
set_option linter.unusedSimpArgs false

def gramN (i : Nat) : Gr := ⟨1 + (i : Int) % 15, 1 + ((i : Int) + 1) % 15, ⟨#[120]⟩⟩
theorem gramN_good (i : Nat) : goodG (gramN i) := by
  unfold goodG gramN
  refine ⟨⟨?_, ?_⟩, ⟨?_, ?_⟩, ?_, ?_⟩
  · show 1 ≤ 1 + (i : Int) % 15
    omega
  · show 1 + (i : Int) % 15 ≤ 15
    omega
  · show 1 ≤ 1 + ((i : Int) + 1) % 15
    omega
  · show 1 + ((i : Int) + 1) % 15 ≤ 15
    omega
  · show 1 + (i : Int) % 15 ≠ 1 + ((i : Int) + 1) % 15
    omega
  · show ((⟨#[120]⟩ : ByteArray).size : Int) ≤ 400
    decide
theorem gram_calls (i : Nat) (hi : i < 1000000) (W : World) : Calls Try.prog 21 #[.int .i64 i] W fun e W2 => e = .returned (.agg #[.int .i64 (gramN i).f0, .int .i64 (gramN i).f1, .string (gramN i).f2]) ∧ Below W.heap.size W W2 := by
  refine mosaiclaw21_gram.calls i _ _ _ W ?_
  have h1 : Int.tmod (i : Int) 15 = (i : Int) % 15 := Int.tmod_eq_emod_of_nonneg (by omega)
  have h2 : wrap64 ((i : Int) + 1) = (i : Int) + 1 := by unfold wrap64; omega
  have h3 : Int.tmod ((i : Int) + 1) 15 = ((i : Int) + 1) % 15 := Int.tmod_eq_emod_of_nonneg (by omega)
  have h4 : wrap64 (1 + (i : Int) % 15) = 1 + (i : Int) % 15 := by unfold wrap64; omega
  have h5 : wrap64 (1 + ((i : Int) + 1) % 15) = 1 + ((i : Int) + 1) % 15 := by unfold wrap64; omega
  unfold mosaiclaw21_gram.f
  rw [h1, h2, h3, h4, h5]
  rfl
/-- The net behind so many sendings. -/
def fullM (i : Nat) : NMs := (List.range i).map fun (k : Nat) => (((k : Int) + 1, gramN k) : Int × Gr)
theorem fullM_len (i : Nat) : (fullM i).length = i := by simp [fullM]
theorem fullM_put (room : Int) (i : Nat) (h : (i : Int) < room) : putC room i (fullM i) = ((i : Int) + 1, 0) ∧ putL room i (fullM i) = (i : Int) + 1 ∧ putM room i (fullM i) (gramN i) = fullM (i + 1) := by
  have hn : ¬ room ≤ ((fullM i).length : Int) := by rw [fullM_len]; omega
  unfold putC putL putM
  rw [if_neg hn, if_neg hn, if_neg hn]
  refine ⟨rfl, rfl, ?_⟩
  unfold fullM
  rw [List.range_succ, List.map_append]
  rfl
theorem nod_inj {α β : Type} (f : α → β) : ∀ l : List α, (l.map f).Nodup → ∀ a ∈ l, ∀ c ∈ l, f a = f c → a = c
  | [], _, a, ha, _, _, _ => by cases ha
  | x :: l, h, a, ha, c, hc, e => by
    rw [List.map_cons, List.nodup_cons] at h
    rcases List.mem_cons.1 ha with ha1 | ha1
    · rcases List.mem_cons.1 hc with hc1 | hc1
      · rw [ha1, hc1]
      · exact absurd (List.mem_map.2 ⟨c, hc1, by rw [← e, ha1]⟩) h.1
    · rcases List.mem_cons.1 hc with hc1 | hc1
      · exact absurd (List.mem_map.2 ⟨a, ha1, by rw [e, hc1]⟩) h.1
      · exact nod_inj f l h.2 a ha1 c hc1 e
theorem atN_of_mem {m : NMs} {id : Int} {x : Gr} (hr : (m.map (·.1)).Pairwise (· < ·)) (h : (id, x) ∈ m) : atN m id = some x := by
  match hx : atN m id with
  | none => exact absurd rfl (atN_none hx (id, x) h)
  | some y =>
    have := nod_inj (fun p : Int × Gr => p.1) m (pw_nodup hr) (id, y) (atN_some hx) (id, x) h rfl
    cases this
    rfl
theorem fullM_get (R k : Nat) (hk : k < R) : (fullM R)[k]? = some ((k : Int) + 1, gramN k) := by
  unfold fullM
  rw [List.getElem?_map, List.getElem?_range hk]
  rfl
theorem nthN_full (R K : Nat) (h : K < R) : nthN (fullM R) (K : Int) = (K : Int) + 1 := by
  unfold nthN
  rw [fullM_len, if_neg (by omega), Int.emod_eq_of_lt (by omega) (by omega)]
  have hl : K < ((fullM R).map (·.1)).length := by rw [List.length_map, fullM_len]; exact h
  rw [Go.Proofs.Ytcddajdjmlmpdaa.Pure.rd_lt _ K hl]
  have := fullM_get R K h
  rw [List.getElem?_eq_getElem (by rw [fullM_len]; exact h)] at this
  rw [List.getElem_map, Option.some.inj this]
theorem dropN_len {R K : Nat} (hr : ((fullM R).map (·.1)).Pairwise (· < ·)) (h : K < R) : (dropN (fullM R) ((K : Int) + 1)).length = R - 1 := by
  have := filter_erase (fun p : Int × Gr => p.1) (fullM R) K _ (pw_nodup hr) (fullM_get R K h)
  unfold dropN
  rw [← this, List.length_eraseIdx_of_lt (by rw [fullM_len]; exact h), fullM_len]
theorem nthN_zero {m : NMs} (h : 0 < m.length) : ∃ x, (nthN m 0, x) ∈ m := by
  unfold nthN
  rw [if_neg (by omega), Int.zero_emod]
  refine ⟨(m[0]).2, ?_⟩
  have hl : 0 < (m.map (·.1)).length := by rw [List.length_map]; exact h
  have := Go.Proofs.Ytcddajdjmlmpdaa.Pure.rd_lt (m.map (·.1)) 0 hl
  rw [show ((0 : Nat) : Int) = 0 from rfl] at this
  rw [this, List.getElem_map]
  exact List.getElem_mem h
def mosaiclaw21_NetFull.f (a0 a1 : Int) : Option Bool := if (-9223372036854775808 ≤ a0 ∧ a0 ≤ 9223372036854775807) ∧ (-9223372036854775808 ≤ a1 ∧ a1 ≤ 9223372036854775807) then some true else none
set_option maxHeartbeats 4000000 in
set_option maxRecDepth 100000 in
theorem mosaiclaw21_NetFull.calls (room which : Int) (r : Bool) (w : World) (h : mosaiclaw21_NetFull.f room which = some r) :
    Calls Try.prog 4 #[.int .i64 room, .int .i64 which] w fun e w' => e = .returned (.bool r) ∧ Below w.heap.size w w' := by
  unfold mosaiclaw21_NetFull.f at h
  split at h
  · rename_i hwf
    obtain rfl := Option.some.inj h
    clear h
    obtain ⟨⟨w1, w2⟩, w3, w4⟩ := hwf
    have HA1 := Aside0.mk (show -600 < room.tmod 600 ∧ room.tmod 600 < 600 by
      have h1 := Int.tmod_lt_of_pos room (show (0 : Int) < 600 by omega)
      have h2 := Int.lt_tmod_of_pos room (show (0 : Int) < 600 by omega)
      omega)
    go_enter Try.func4, Try.ntmps4
    go_upto_region 1 with fail
    go_cut [0] from 17 to 21 (fun v0 wc => ∃ R : Nat, v0 = .int .i64 R ∧ Aside0 (1 ≤ R ∧ R ≤ 600) ∧ wc = w)
    case first =>
      go_wp2_with fail
      go_meet
      case rel =>
        have hq := HA1.out
        generalize room.tmod 600 = q at hq
        have e1 : wrap64 (q + 600) = q + 600 := by unfold wrap64; omega
        have e2 : (q + 600).tmod 600 = (q + 600) % 600 := Int.tmod_eq_emod_of_nonneg (by omega)
        have e3 : wrap64 (1 + (q + 600) % 600) = 1 + (q + 600) % 600 := by unfold wrap64; omega
        rw [e1, e2, e3]
        exact ⟨(1 + (q + 600) % 600).toNat, by rw [Int.toNat_of_nonneg (by omega)], ⟨by omega, by omega⟩, rfl⟩
    case rest =>
    obtain ⟨R, rfl, HR, rfl⟩ := hcut
    go_upto_region 2 with fail
    go_cut [1] from 22 to 28 (fun v1 wd => ∃ K : Nat, v1 = .int .i64 K ∧ Aside0 (K < R) ∧ wd = wc)
    case first =>
      obtain ⟨hR1, hR2⟩ := HR.out
      have h1 := Int.tmod_lt_of_pos which (show (0 : Int) < (R : Int) by omega)
      have h2 := Int.lt_tmod_of_pos which (show (0 : Int) < (R : Int) by omega)
      have hz : ((R : Int) == 0) = false := by simp; omega
      have hov : IntKind.i64.wrap (which.tmod (R : Int) + (R : Int)) = which.tmod (R : Int) + (R : Int) := IntWalk.i64_in _ (by omega)
      have h3 := Int.tmod_lt_of_pos (which.tmod (R : Int) + (R : Int)) (show (0 : Int) < (R : Int) by omega)
      have h4 := Int.tmod_nonneg (R : Int) (show 0 ≤ which.tmod (R : Int) + (R : Int) by omega)
      go_wp2_with fail
      go_meet
      case rel =>
        have h5 := Int.emod_nonneg (which.tmod (R : Int) + (R : Int)) (show (R : Int) ≠ 0 by omega)
        have h6 := Int.emod_lt_of_pos (which.tmod (R : Int) + (R : Int)) (show (0 : Int) < (R : Int) by omega)
        exact ⟨((which.tmod (R : Int) + (R : Int)) % (R : Int)).toNat, by rw [Int.toNat_of_nonneg h5], ⟨by omega⟩, rfl⟩
    case rest =>
    obtain ⟨K, rfl, HK, rfl⟩ := hcut
    go_wp2_with fail
    refine (New_yes (R : Int) _ (by have := HR.out; omega) (by have := HR.out; omega)).mono ?_
    rintro e W1 ⟨g, b, rfl, t⟩
    have T1 := Aside0.mk t
    clear t
    go_wp2_with fail
    refine (awake21 _).mono ?_
    rintro e W2 ⟨rfl, hb⟩
    have T2 := Aside0.mk (T1.out.below hb)
    clear hb T1
    go_wp2_with fail
    go_loopg [6] (R + 1) (fun gg v6 wr => ∃ i : Nat, v6 = .int .i64 i ∧ Aside0 (i + gg = R + 1 ∧ i ≤ R) ∧ Aside0 (NetAt wc wr g b R i (fullM i)))
    case atStart => exact ⟨0, rfl, ⟨by omega, by omega⟩, T2⟩
    case round =>
      clear T2
      obtain ⟨i, rfl, HG, HT⟩ := hrel
      have hR := HR.out
      have hK := HK.out
      by_cases hlt : (i : Int) < (R : Int)
      · obtain ⟨gg, rfl⟩ : ∃ z, gk = z + 1 := ⟨gk - 1, by have := HG.out; omega⟩
        have HGR := Aside0.mk (gram_calls i (by omega))
        have HP := Aside0.mk (fullM_put (R : Int) i hlt)
        have hov : IntKind.i64.wrap ((i : Int) + 1) = (i : Int) + 1 := IntWalk.i64_in _ (by omega)
        go_wp2_with fail
        refine (HGR.out _).mono ?_
        rintro e W3 ⟨rfl, hb⟩
        have T3 := Aside0.mk (HT.out.below hb)
        clear hb HT
        go_wp2_with fail
        refine (T3.out.Send_good (by omega) (gramN i) (gramN_good i)).mono ?_
        rintro e W4 ⟨he, d⟩
        rw [HP.out.1] at he
        rw [HP.out.2.1, HP.out.2.2] at d
        subst he
        have T4 := Aside0.mk d.net
        clear d T3
        go_wp2_with fail
        go_roundg gg
        case measure => omega
        case rel => exact ⟨i + 1, by go_num, ⟨by have := HG.out; omega, by omega⟩, T4⟩
      · obtain rfl : i = R := by have := HG.out; omega
        have HG0 := Aside0.mk (gram_calls 0 (by omega))
        have HGK := Aside0.mk (gram_calls K (by omega))
        have hful : (i : Int) ≤ ((fullM i).length : Int) := by rw [fullM_len]; omega
        have hc6 : putC (i : Int) (i : Int) (fullM i) = (0, 6) := if_pos hful
        have hat1 : atN (fullM i) 1 = some (gramN 0) := atN_of_mem HT.out.rise (List.mem_of_getElem? (fullM_get i 0 (by omega)))
        have hatK : atN (fullM i) ((K : Int) + 1) = some (gramN K) := atN_of_mem HT.out.rise (List.mem_of_getElem? (fullM_get i K hK))
        have hnth := nthN_full i K hK
        have hdl := dropN_len HT.out.rise hK
        have HC6 := Aside0.mk hc6
        have HFUL := Aside0.mk hful
        have HAT1 := Aside0.mk hat1
        have HATK := Aside0.mk hatK
        have HNTH := Aside0.mk hnth
        have HDL := Aside0.mk hdl
        have hov : IntKind.i64.wrap ((i : Int) + 1) = (i : Int) + 1 := IntWalk.i64_in _ (by omega)
        clear hful hc6 hat1 hatK hnth hdl
        go_wp2_with fail
        refine (HG0.out _).mono ?_
        rintro e W3 ⟨rfl, hb⟩
        have T3 := Aside0.mk (HT.out.below hb)
        clear hb HT
        go_wp2_with fail
        refine (T3.out.Send_good (by omega) (gramN 0) (gramN_good 0)).mono ?_
        rintro e W4 ⟨he, d⟩
        rw [HC6.out] at he
        rw [show putL (i : Int) (i : Int) (fullM i) = (i : Int) from if_pos HFUL.out, show putM (i : Int) (i : Int) (fullM i) (gramN 0) = fullM i from if_pos HFUL.out] at d
        subst he
        have T4 := Aside0.mk d.net
        clear d T3
        go_wp2_with fail
        refine (T4.out.Twice_any (by omega) 1 (by decide)).mono ?_
        rw [HAT1.out]
        rintro e W5 ⟨he, d⟩
        simp only [HC6.out] at he
        dsimp only at d
        rw [show putL (i : Int) (i : Int) (fullM i) = (i : Int) from if_pos HFUL.out, show putM (i : Int) (i : Int) (fullM i) (gramN 0) = fullM i from if_pos HFUL.out] at d
        subst he
        have T5 := Aside0.mk d.net
        clear d T4
        go_wp2_with fail
        refine (T5.out.Nth_any (by rw [fullM_len]; omega) (K : Int) (by omega)).mono ?_
        rw [HNTH.out]
        rintro e W6 ⟨rfl, hb⟩
        have T6 := Aside0.mk (T5.out.below hb)
        clear hb T5
        go_wp2_with fail
        refine (T6.out.Take_any ((K : Int) + 1) (Go.WalkArith.wf_i64 (by omega))).mono ?_
        rw [HATK.out]
        simp only [Option.getD_some]
        rintro e W7 ⟨he, d⟩
        have he2 : e = .returned (.tuple #[.agg #[.int .i64 (gramN K).f0, .int .i64 (gramN K).f1, .string (gramN K).f2], .int .i64 0]) := he
        subst he2
        have T7 := Aside0.mk d.net
        clear d T6 he
        have HX7 := Aside0.mk (heap_alloc_new W7 (.cells #[.int .i64 (gramN K).f0, .int .i64 (gramN K).f1, .string (gramN K).f2] 41))
        have T8 := Aside0.mk (T7.out.below (below_alloc (Below.refl _ _) (.cells #[.int .i64 (gramN K).f0, .int .i64 (gramN K).f1, .string (gramN K).f2] 41)))
        clear T7
        go_wp2_with fail
        generalize W7.alloc (.cells #[.int .i64 (gramN K).f0, .int .i64 (gramN K).f1, .string (gramN K).f2] 41) = W8 at HX7 T8 ⊢
        refine (T8.out.Nth_any (by rw [HDL.out]; omega) 0 (by decide)).mono ?_
        rintro e W9 ⟨rfl, hb⟩
        have T9 := Aside0.mk (T8.out.below hb)
        have HX9 := Aside0.mk (blk_below HX7.out hb)
        clear hb T8 HX7
        generalize W7.heap.size = g13 at HX9 ⊢
        have hwn : (Lit.int .i64 (nthN (dropN (fullM i) ((K : Int) + 1)) 0)).wf = true := by
          by_cases hd0 : 0 < (dropN (fullM i) ((K : Int) + 1)).length
          · obtain ⟨x, hx⟩ := nthN_zero hd0
            have := T9.out.top _ hx
            exact Go.WalkArith.wf_i64 (by simp only [] at this; omega)
          · rw [show nthN (dropN (fullM i) ((K : Int) + 1)) 0 = 0 from if_pos (.inl (by omega))]
            decide
        have HTW := Aside0.mk (T9.out.Twice_any (by omega) _ hwn)
        by_cases h1 : i = 1
        · have hd0 : dropN (fullM i) ((K : Int) + 1) = [] := List.length_eq_zero_iff.1 (by rw [HDL.out]; omega)
          have hno : ¬ (i : Int) ≤ ((dropN (fullM i) ((K : Int) + 1)).length : Int) := by rw [HDL.out]; omega
          have HPC := Aside0.mk (show putC (i : Int) (i : Int) (dropN (fullM i) ((K : Int) + 1)) = ((i : Int) + 1, 0) from if_neg hno)
          have HPL := Aside0.mk (show putL (i : Int) (i : Int) (dropN (fullM i) ((K : Int) + 1)) = (i : Int) + 1 from if_neg hno)
          have HPM := Aside0.mk (show putM (i : Int) (i : Int) (dropN (fullM i) ((K : Int) + 1)) (gramN 0) = dropN (fullM i) ((K : Int) + 1) ++ [((i : Int) + 1, gramN 0)] from if_neg hno)
          have hat : atN (dropN (fullM i) ((K : Int) + 1)) (nthN (dropN (fullM i) ((K : Int) + 1)) 0) = none := by rw [hd0]; rfl
          rw [hat] at HTW
          have hi1 : ((i : Int) == 1) = true := by simp; omega
          have HI1 := Aside0.mk h1
          clear hno hat hd0 hwn h1
          go_wp2_with fail
          refine HTW.out.mono ?_
          rintro e W9b ⟨he, d⟩
          (try dsimp only at he)
          (try dsimp only at d)
          subst he
          have T9b := Aside0.mk d.net
          have HX9b := Aside0.mk (blk_kept HX9.out d.kept (footN_not HX9.out (by decide)))
          clear d T9 HX9 HTW
          go_wp2_with fail
          refine (HG0.out _).mono ?_
          rintro e W9c ⟨rfl, hb⟩
          have T9c := Aside0.mk (T9b.out.below hb)
          have HX9c := Aside0.mk (blk_below HX9b.out hb)
          clear hb T9b HX9b
          go_wp2_with fail
          refine (T9c.out.Send_good (by omega) (gramN 0) (gramN_good 0)).mono ?_
          rintro e W10 ⟨he, d⟩
          rw [HPC.out] at he
          rw [HPL.out, HPM.out] at d
          (try dsimp only at he)
          subst he
          have T10 := Aside0.mk d.net
          have HX10 := Aside0.mk (blk_kept HX9c.out d.kept (footN_not HX9c.out (by decide)))
          have HLN := Aside0.mk (show ((dropN (fullM i) ((K : Int) + 1) ++ [((i : Int) + 1, gramN 0)]).length : Int) = (i : Int) by rw [List.length_append, HDL.out]; simp; omega)
          clear d T9c HX9c
          have x0 := (show W10.cell? ⟨g13, 0, none⟩ = some (.int .i64 (gramN K).f0) from blk_cell HX10.out 0)
          have x1 := (show W10.cell? ⟨g13, 1, none⟩ = some (.int .i64 (gramN K).f1) from blk_cell HX10.out 1)
          have x2 := (show W10.cell? ⟨g13, 2, none⟩ = some (.string (gramN K).f2) from blk_cell HX10.out 2)
          go_wp2_with fail
          go_region_held3 (fun w' => w'.cell? ⟨g13, 0, none⟩ = some (.int .i64 (gramN K).f0) ∧ w'.cell? ⟨g13, 1, none⟩ = some (.int .i64 (gramN K).f1) ∧ w'.cell? ⟨g13, 2, none⟩ = some (.string (gramN K).f2)) (go_keep)
            (first
              | (go_at_call 21; refine (HGK.out _).mono ?_; rintro e w14 ⟨he, hb⟩; subst he; have hb' := (below_step (by repeat (first | (with_reducible first | exact Below.refl _ _ | apply below_alloc | apply pw_below_drewN | apply below_drew1) | exact Below.refl _ _)) hb : Below W10.heap.size W10 w14); have T14 := Aside0.mk (T10.out.below hb'); have HX14 := Aside0.mk (blk_below HX10.out hb'); clear hb hb' x0 x1 x2; have x0 := (show w14.cell? ⟨g13, 0, none⟩ = some (.int .i64 (gramN K).f0) from blk_cell HX14.out 0); have x1 := (show w14.cell? ⟨g13, 1, none⟩ = some (.int .i64 (gramN K).f1) from blk_cell HX14.out 1); have x2 := (show w14.cell? ⟨g13, 2, none⟩ = some (.string (gramN K).f2) from blk_cell HX14.out 2))
              | (go_at_call 25; refine ((T14.out.below (by repeat (first | (with_reducible first | exact Below.refl _ _ | apply below_alloc | apply pw_below_drewN | apply below_drew1) | exact Below.refl _ _))).Len_any).mono ?_; rintro e w15 ⟨he, hw⟩; subst hw; rw [HLN.out] at he; subst he))
          all_goals
            (try go_wp2_with fail)
            go_ret
            exact ⟨rfl, (T14.out.below (by repeat (first | (with_reducible first | exact Below.refl _ _ | apply below_alloc | apply pw_below_drewN | apply below_drew1) | exact Below.refl _ _))).bel⟩
        · obtain ⟨x, hx⟩ := nthN_zero (m := dropN (fullM i) ((K : Int) + 1)) (by rw [HDL.out]; omega)
          have hat := atN_of_mem T9.out.rise hx
          rw [hat] at HTW
          have hno : ¬ (i : Int) ≤ ((dropN (fullM i) ((K : Int) + 1)).length : Int) := by rw [HDL.out]; omega
          have HPC := Aside0.mk (show putC (i : Int) (i : Int) (dropN (fullM i) ((K : Int) + 1)) = ((i : Int) + 1, 0) from if_neg hno)
          have HPL := Aside0.mk (show putL (i : Int) (i : Int) (dropN (fullM i) ((K : Int) + 1)) = (i : Int) + 1 from if_neg hno)
          have HPM := Aside0.mk (show putM (i : Int) (i : Int) (dropN (fullM i) ((K : Int) + 1)) x = dropN (fullM i) ((K : Int) + 1) ++ [((i : Int) + 1, x)] from if_neg hno)
          have hi1 : ((i : Int) == 1) = false := by simp; omega
          clear hno hat hx hwn
          go_wp2_with fail
          refine HTW.out.mono ?_
          rintro e W10 ⟨he, d⟩
          (try dsimp only at he)
          (try dsimp only at d)
          rw [HPC.out] at he
          rw [HPL.out, HPM.out] at d
          (try dsimp only at he)
          subst he
          have T10 := Aside0.mk d.net
          have HX10 := Aside0.mk (blk_kept HX9.out d.kept (footN_not HX9.out (by decide)))
          have HLN := Aside0.mk (show ((dropN (fullM i) ((K : Int) + 1) ++ [((i : Int) + 1, x)]).length : Int) = (i : Int) by rw [List.length_append, HDL.out]; simp; omega)
          clear d T9 HX9 HTW
          have x0 := (show W10.cell? ⟨g13, 0, none⟩ = some (.int .i64 (gramN K).f0) from blk_cell HX10.out 0)
          have x1 := (show W10.cell? ⟨g13, 1, none⟩ = some (.int .i64 (gramN K).f1) from blk_cell HX10.out 1)
          have x2 := (show W10.cell? ⟨g13, 2, none⟩ = some (.string (gramN K).f2) from blk_cell HX10.out 2)
          go_wp2_with fail
          go_region_held3 (fun w' => w'.cell? ⟨g13, 0, none⟩ = some (.int .i64 (gramN K).f0) ∧ w'.cell? ⟨g13, 1, none⟩ = some (.int .i64 (gramN K).f1) ∧ w'.cell? ⟨g13, 2, none⟩ = some (.string (gramN K).f2)) (go_keep)
            (first
              | (go_at_call 21; refine (HGK.out _).mono ?_; rintro e w14 ⟨he, hb⟩; subst he; have hb' := (below_step (by repeat (first | (with_reducible first | exact Below.refl _ _ | apply below_alloc | apply pw_below_drewN | apply below_drew1) | exact Below.refl _ _)) hb : Below W10.heap.size W10 w14); have T14 := Aside0.mk (T10.out.below hb'); have HX14 := Aside0.mk (blk_below HX10.out hb'); clear hb hb' x0 x1 x2; have x0 := (show w14.cell? ⟨g13, 0, none⟩ = some (.int .i64 (gramN K).f0) from blk_cell HX14.out 0); have x1 := (show w14.cell? ⟨g13, 1, none⟩ = some (.int .i64 (gramN K).f1) from blk_cell HX14.out 1); have x2 := (show w14.cell? ⟨g13, 2, none⟩ = some (.string (gramN K).f2) from blk_cell HX14.out 2))
              | (go_at_call 25; refine ((T14.out.below (by repeat (first | (with_reducible first | exact Below.refl _ _ | apply below_alloc | apply pw_below_drewN | apply below_drew1) | exact Below.refl _ _))).Len_any).mono ?_; rintro e w15 ⟨he, hw⟩; subst hw; rw [HLN.out] at he; subst he))
          all_goals
            (try go_wp2_with fail)
            go_ret
            exact ⟨rfl, (T14.out.below (by repeat (first | (with_reducible first | exact Below.refl _ _ | apply below_alloc | apply pw_below_drewN | apply below_drew1) | exact Below.refl _ _))).bel⟩
  · cases h
end Go.Proofs.Ytcddajdjmlmpdaa.Print
