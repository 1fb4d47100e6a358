/- The law PeersHeard, by hand. -/
-- MANUAL mosaic/mosaiclaw18.PeersHeard making plain
import Derived.Test.YtpejjpecdkbleaaPrK
import Derived.Test.YtpejjpecdkbleaaMaPeers1
import Derived.Test.YtpejjpecdkbleaaMaPeers11
import Derived.Test.YtpejjpecdkbleaaMaPeers12
import Derived.Test.YtpejjpecdkbleaaMaPeers4
import Derived.Test.YtpejjpecdkbleaaMaPeers7
import Derived.Test.YtpejjpecdkbleaaMaPeers9
import Derived.Test.YtpejjpecdkbleaaMaPeersRates
import Derived.Test.YtpejjpecdkbleaaMaPeersRates
import Derived.IntWalk
import Derived.BigQuiet
import Derived.Deep.QuietTactic
import Derived.Deep.RegionLaw
import Derived.RegionTactic
import Derived.Outline
import Derived.Laws.CopyOwn
namespace Go.Proofs.Ytpejjpecdkbleaa.Print
open Go.RowKit Go.Proofs.YtpejjpecdkbleaaW.PrintWords Go.Proofs.YtpejjpecdkbleaaW.PrintLast Go.Proofs.YtpejjpecdkbleaaW.PrintMore
set_option linter.unusedVariables false
set_option linter.unusedSimpArgs false

def heard1 (now : Int) : Pr := { met 1 0 0 0 with f6 := now }
def heard2 : Pr := met 2 0 0 0
/-- The table of PeersHeard: peers 1 and 2, as long as they are there. -/
def heardM (a : Bool) (now : Int) (b : Bool) : PM := [none, if a = true then some (heard1 now) else none, if b = true then some heard2 else none, none, none, none, none, none, none, none, none, none, none, none, none, none]
theorem heard_exp (a b : Bool) (now now' tmo : Int) : (heardM a now b).map (expM now' tmo) = heardM (a && !decide (tmo < now' - now)) now (b && !decide (tmo < now')) := by
  have e1 : lateB now' tmo (heard1 now) = decide (tmo < now' - now) := rfl
  have e2 : lateB now' tmo heard2 = decide (tmo < now') := by unfold lateB heard2 met; simp
  unfold heardM
  cases a <;> cases b <;> simp only [List.map_cons, List.map_nil, expM, if_true, if_false, Bool.false_eq_true, Bool.true_and, Bool.false_and, e1, e2, List.cons.injEq, and_true, true_and] <;> (try constructor) <;> (try rfl) <;> (split <;> simp_all)
theorem heard_gone (a b : Bool) (now now' tmo : Int) : (goneM now' tmo (heardM a now b) 16).length ≤ 2 := by
  have h0 : ∀ i, i < 16 → i ≠ 1 → i ≠ 2 → (heardM a now b)[i]? = some none := by
    intro i hi h1 h2
    unfold heardM
    rcases (by omega : i = 0 ∨ i = 3 ∨ i = 4 ∨ i = 5 ∨ i = 6 ∨ i = 7 ∨ i = 8 ∨ i = 9 ∨ i = 10 ∨ i = 11 ∨ i = 12 ∨ i = 13 ∨ i = 14 ∨ i = 15) with rfl | rfl | rfl | rfl | rfl | rfl | rfl | rfl | rfl | rfl | rfl | rfl | rfl | rfl <;> rfl
  have h1 : ∀ i, i < 16 → i ≠ 1 → i ≠ 2 → goneM now' tmo (heardM a now b) (i + 1) = goneM now' tmo (heardM a now b) i := by
    intro i hi h1 h2
    conv => lhs; unfold goneM
    rw [h0 i hi h1 h2]
    simp
  have h2 : ∀ i, (goneM now' tmo (heardM a now b) (i + 1)).length ≤ (goneM now' tmo (heardM a now b) i).length + 1 := by
    intro i
    conv => lhs; unfold goneM
    rw [List.length_append]
    split
    · split <;> simp
    · simp
  rw [h1 15 (by omega) (by omega) (by omega), h1 14 (by omega) (by omega) (by omega), h1 13 (by omega) (by omega) (by omega), h1 12 (by omega) (by omega) (by omega), h1 11 (by omega) (by omega) (by omega), h1 10 (by omega) (by omega) (by omega), h1 9 (by omega) (by omega) (by omega), h1 8 (by omega) (by omega) (by omega), h1 7 (by omega) (by omega) (by omega), h1 6 (by omega) (by omega) (by omega), h1 5 (by omega) (by omega) (by omega), h1 4 (by omega) (by omega) (by omega), h1 3 (by omega) (by omega) (by omega)]
  have a2 := h2 2
  have a1 := h2 1
  have a0 : (goneM now' tmo (heardM a now b) 1).length = 0 := by rw [h1 0 (by omega) (by omega) (by omega)]; rfl
  have e3 : (goneM now' tmo (heardM a now b) (2 + 1)).length = (goneM now' tmo (heardM a now b) 3).length := rfl
  have e2 : (goneM now' tmo (heardM a now b) (1 + 1)).length = (goneM now' tmo (heardM a now b) 2).length := rfl
  omega
theorem heard_hear (now now' : Int) (b : Bool) (h : now ≤ now') : setM (heardM true now b) 1 (fun p => { p with f6 := mx p.f6 now' }) = heardM true now' b := by
  have e : mx (heard1 now).f6 now' = now' := by
    show mx now now' = now'
    unfold mx
    split <;> omega
  have h1 : atM (heardM true now b) 1 = some (heard1 now) := rfl
  rw [setM_some h1]
  show (heardM true now b).set 1 (some { heard1 now with f6 := mx (heard1 now).f6 now' }) = _
  rw [e]
  rfl
def mosaiclaw18_PeersHeard.f (a0 : Int) (l1 : List Int) : Option Bool := some true
set_option maxHeartbeats 4000000 in
set_option maxRecDepth 100000 in
theorem mosaiclaw18_PeersHeard.calls (tmo : Int) (A1 : Option Addr) (c1 : Nat) (l1 : List Int) (r : Bool) (w : World) (hr1 : Kd.C (Kd.int .i64) w A1 l1.length l1) (hc1 : l1.length ≤ c1) (h : mosaiclaw18_PeersHeard.f tmo l1 = some r) :
    Calls Try.prog 4 #[.int .i64 tmo, .slice A1 l1.length c1] w fun e w' => e = .returned (.bool r) ∧ Below w.heap.size w w' := by
  obtain rfl := Option.some.inj (show some true = some r from h)
  clear h
  have HR1 := Aside0.mk hr1
  clear hr1 hc1
  by_cases htm : 1 ≤ tmo ∧ tmo ≤ 1099511627776
  · have a1 : meetC 2 aw0 noB 1 0 0 0 = 0 ∧ meetM 2 aw0 noB 1 0 0 0 = aw0.set 1 (some (met 1 0 0 0)) := ⟨rfl, rfl⟩
    have a2 : meetC 2 (aw0.set 1 (some (met 1 0 0 0))) noB 2 0 0 0 = 0 ∧ meetM 2 (aw0.set 1 (some (met 1 0 0 0))) noB 2 0 0 0 = heardM true 0 true := ⟨rfl, rfl⟩
    have A1' := Aside0.mk a1
    have A2' := Aside0.mk a2
    have HTM := Aside0.mk htm
    clear a1 a2 htm
    go_enter Try.func4, Try.ntmps4
    go_wp2_with fail
    refine (PT_new 2 tmo w (by have := HTM.out; omega)).mono ?_
    rintro e W1 ⟨g, rfl, t⟩
    have T1 := Aside0.mk (show PT w W1 g 2 tmo aw0 noB from t)
    clear t
    go_wp2_with fail
    refine (awake18 _).mono ?_
    rintro e W2 ⟨rfl, hb⟩
    have T2 := Aside0.mk (T1.out.below hb)
    clear hb T1
    go_wp2_with fail
    refine (T2.out.Meet_any 1 0 0 0).mono ?_
    rintro e W3 ⟨he, d⟩
    rw [A1'.out.1] at he
    rw [A1'.out.2] at d
    subst he
    have T3 := Aside0.mk d.pt
    clear d T2
    go_wp2_with fail
    refine (T3.out.Meet_any 2 0 0 0).mono ?_
    rintro e W4 ⟨he, d⟩
    rw [A2'.out.1] at he
    rw [A2'.out.2] at d
    subst he
    have T4 := Aside0.mk d.pt
    clear d T3
    go_wp2_with fail
    go_loopg [6, 9, 10] 31 (fun gg v6 v9 v10 wr => ∃ (i : Nat) (now : Int) (a b : Bool), v10 = .int .i64 i ∧ v6 = .int .i64 now ∧ v9 = .bool a ∧ Aside0 (i + gg = 31) ∧ Aside0 (0 ≤ now ∧ now ≤ 17179869184 * (i : Int)) ∧ Aside0 (b = decide (now ≤ tmo)) ∧ Aside0 (PT w wr g 2 tmo (heardM a now b) noB))
    case atStart => exact ⟨0, 0, true, true, rfl, rfl, rfl, ⟨rfl⟩, ⟨by omega⟩, ⟨(decide_eq_true (by have := HTM.out; omega)).symm⟩, T4⟩
    case round =>
      clear T4
      obtain ⟨i, now, a, b, rfl, rfl, rfl, HG, HN, HBB, HT⟩ := hrel
      by_cases hlt : (i : Int) < (l1.length : Int)
      · by_cases h30 : (i : Int) < 30
        · obtain ⟨gg, rfl⟩ : ∃ m, gk = m + 1 := ⟨gk - 1, by have := HG.out; omega⟩
          obtain ⟨ad, hA, hx⟩ := Kd.at_int HR1.out (i : Int) (by omega) hlt
          rw [Int.toNat_natCast] at hx
          subst hA
          generalize rd l1 (i : Int) = n at hx
          have HX := Aside0.mk hx
          clear hx
          have hx : wr.cell? (ad.add i) = some (.int .i64 n) := (HT.out.bel.cell (World.block_lt_of_cell? w _ HX.out)).trans HX.out
          by_cases hn0 : n < 0
          · go_wp2_with fail
            go_roundg gg
            case measure => omega
            case rel => exact ⟨i + 1, now, a, b, by go_num, rfl, rfl, ⟨by have := HG.out; omega⟩, ⟨by have := HN.out; omega⟩, HBB, HT⟩
          · by_cases hn1 : 17179869184 < n
            · go_wp2_with fail
              go_roundg gg
              case measure => omega
              case rel => exact ⟨i + 1, now, a, b, by go_num, rfl, rfl, ⟨by have := HG.out; omega⟩, ⟨by have := HN.out; omega⟩, HBB, HT⟩
            · obtain ⟨hw0, hw1⟩ : 0 ≤ now ∧ now ≤ 515396075520 := by have := HN.out; omega
              have hnn : 0 ≤ n ∧ n ≤ 17179869184 := by omega
              obtain ⟨hnn0, hnn1⟩ := hnn
              go_wp2_with fail
              refine (HT.out.Expire_any (now + n)).mono ?_
              have htk : tickB (now + n) = true := decide_eq_true (by omega)
              rw [if_pos htk, if_pos htk, heard_exp, show now + n - now = n by omega]
              rintro e W5 ⟨v, rfl, hv, d⟩
              have hgl := heard_gone a b now (now + n) tmo
              obtain ⟨A5, c5, hv5⟩ := Kd.R_slice hv
              subst hv5
              generalize (goneM (now + n) tmo (heardM a now b) 16).length = gl at hgl ⊢
              have HT5 := Aside0.mk d.pt
              have HTK := Aside0.mk htk
              have hgl2 : ¬ (2 : Int) < (gl : Int) := by omega
              clear hv d HT htk hgl
              by_cases hgap : tmo < n
              · have e1 : decide (tmo < n) = true := decide_eq_true hgap
                rw [e1, Bool.not_true, Bool.and_false] at HT5
                clear e1
                have hle : ¬ now + n ≤ tmo := by omega
                have e2 : decide (tmo < now + n) = true := decide_eq_true (by omega)
                rw [e2, Bool.not_true, Bool.and_false] at HT5
                clear e2 HX hx
                go_wp2_with fail
                refine ((HT5.out : PT w W5 g 2 tmo (heardM false now false) noB).Get_any 1).mono ?_
                rw [show atM (heardM false now false) 1 = none from rfl]
                rintro e W6 ⟨rfl, hb⟩
                have HT6 := Aside0.mk (HT5.out.below hb)
                clear hb HT5
                go_wp2_with (refine store_new rfl 33 (.tmp 13) (.tmp 79) rfl W6.heap.size (peerC z33).toArray rfl rfl 33 _ (heap_alloc_new W6 _) info33z rfl (peer_one _) ?_; intro W7 hW7 hb7; have HT7 := Aside0.mk (HT6.out.below (Below.trans (below_alloc (Below.refl _ _) _) hb7)); clear hW7 hb7 HT6)
                refine ((HT7.out : PT w W7 g 2 tmo (heardM false now false) noB).Get_any 2).mono ?_
                rw [show atM (heardM false now false) 2 = none from rfl]
                rintro e W8 ⟨rfl, hb⟩
                have HT8 := Aside0.mk (HT7.out.below hb)
                clear hb HT7
                go_wp2_with (refine store_new rfl 33 (.tmp 15) (.tmp 84) rfl W8.heap.size (peerC z33).toArray rfl rfl 33 _ (heap_alloc_new W8 _) info33z rfl (peer_one _) ?_; intro W9 hW9 hb9; have HT9 := Aside0.mk (HT8.out.below (Below.trans (below_alloc (Below.refl _ _) _) hb9)); clear hW9 hb9 HT8)
                refine ((HT9.out : PT w W9 g 2 tmo (heardM false now false) noB).Hear_any 1 (now + n)).mono ?_
                rw [if_pos HTK.out, if_pos HTK.out]
                rintro e W10 ⟨he, d⟩
                rw [show withC (heardM false now false) 1 = 4 from rfl] at he
                rw [show setM (heardM false now false) 1 (fun p => { p with f6 := mx p.f6 (now + n) }) = heardM false (now + n) false from rfl] at d
                subst he
                have HT10 := Aside0.mk d.pt
                clear d HT9
                go_wp2_with fail
                go_roundg gg
                case measure => omega
                case rel => exact ⟨i + 1, now + n, false, false, by go_num, rfl, rfl, ⟨by have := HG.out; omega⟩, ⟨by have := HN.out; omega⟩, ⟨(decide_eq_false (by omega)).symm⟩, HT10⟩
              · have e1 : decide (tmo < n) = false := decide_eq_false hgap
                rw [e1, Bool.not_false, Bool.and_true] at HT5
                clear e1
                cases a with
                | false =>
                  by_cases hle : now + n ≤ tmo
                  · obtain rfl : b = true := HBB.out.trans (decide_eq_true (by omega))
                    have e2 : decide (tmo < now + n) = false := decide_eq_false (by omega)
                    rw [e2, Bool.not_false, Bool.and_true] at HT5
                    clear e2 HX hx
                    go_wp2_with fail
                    refine ((HT5.out : PT w W5 g 2 tmo (heardM false now true) noB).Get_any 1).mono ?_
                    rw [show atM (heardM false now true) 1 = none from rfl]
                    rintro e W6 ⟨rfl, hb⟩
                    have HT6 := Aside0.mk (HT5.out.below hb)
                    clear hb HT5
                    go_wp2_with (refine store_new rfl 33 (.tmp 13) (.tmp 79) rfl W6.heap.size (peerC z33).toArray rfl rfl 33 _ (heap_alloc_new W6 _) info33z rfl (peer_one _) ?_; intro W7 hW7 hb7; have HT7 := Aside0.mk (HT6.out.below (Below.trans (below_alloc (Below.refl _ _) _) hb7)); clear hW7 hb7 HT6)
                    refine ((HT7.out : PT w W7 g 2 tmo (heardM false now true) noB).Get_any 2).mono ?_
                    rw [show atM (heardM false now true) 2 = some heard2 from rfl]
                    rintro e W8 ⟨rfl, hb⟩
                    have HT8 := Aside0.mk (HT7.out.below hb)
                    clear hb HT7
                    go_wp2_with (refine store_new rfl 33 (.tmp 15) (.tmp 84) rfl W8.heap.size (peerC heard2).toArray rfl rfl 33 _ (heap_alloc_new W8 _) info33z rfl (peer_one _) ?_; intro W9 hW9 hb9; have HT9 := Aside0.mk (HT8.out.below (Below.trans (below_alloc (Below.refl _ _) _) hb9)); clear hW9 hb9 HT8)
                    refine ((HT9.out : PT w W9 g 2 tmo (heardM false now true) noB).Hear_any 1 (now + n)).mono ?_
                    rw [if_pos HTK.out, if_pos HTK.out]
                    rintro e W10 ⟨he, d⟩
                    rw [show withC (heardM false now true) 1 = 4 from rfl] at he
                    rw [show setM (heardM false now true) 1 (fun p => { p with f6 := mx p.f6 (now + n) }) = heardM false (now + n) true from rfl] at d
                    subst he
                    have HT10 := Aside0.mk d.pt
                    clear d HT9
                    go_wp2_with fail
                    go_roundg gg
                    case measure => omega
                    case rel => exact ⟨i + 1, now + n, false, true, by go_num, rfl, rfl, ⟨by have := HG.out; omega⟩, ⟨by have := HN.out; omega⟩, ⟨(decide_eq_true hle).symm⟩, HT10⟩
                  · have e2 : decide (tmo < now + n) = true := decide_eq_true (by omega)
                    rw [e2, Bool.not_true, Bool.and_false] at HT5
                    clear e2 HX hx
                    go_wp2_with fail
                    refine ((HT5.out : PT w W5 g 2 tmo (heardM false now false) noB).Get_any 1).mono ?_
                    rw [show atM (heardM false now false) 1 = none from rfl]
                    rintro e W6 ⟨rfl, hb⟩
                    have HT6 := Aside0.mk (HT5.out.below hb)
                    clear hb HT5
                    go_wp2_with (refine store_new rfl 33 (.tmp 13) (.tmp 79) rfl W6.heap.size (peerC z33).toArray rfl rfl 33 _ (heap_alloc_new W6 _) info33z rfl (peer_one _) ?_; intro W7 hW7 hb7; have HT7 := Aside0.mk (HT6.out.below (Below.trans (below_alloc (Below.refl _ _) _) hb7)); clear hW7 hb7 HT6)
                    refine ((HT7.out : PT w W7 g 2 tmo (heardM false now false) noB).Get_any 2).mono ?_
                    rw [show atM (heardM false now false) 2 = none from rfl]
                    rintro e W8 ⟨rfl, hb⟩
                    have HT8 := Aside0.mk (HT7.out.below hb)
                    clear hb HT7
                    go_wp2_with (refine store_new rfl 33 (.tmp 15) (.tmp 84) rfl W8.heap.size (peerC z33).toArray rfl rfl 33 _ (heap_alloc_new W8 _) info33z rfl (peer_one _) ?_; intro W9 hW9 hb9; have HT9 := Aside0.mk (HT8.out.below (Below.trans (below_alloc (Below.refl _ _) _) hb9)); clear hW9 hb9 HT8)
                    refine ((HT9.out : PT w W9 g 2 tmo (heardM false now false) noB).Hear_any 1 (now + n)).mono ?_
                    rw [if_pos HTK.out, if_pos HTK.out]
                    rintro e W10 ⟨he, d⟩
                    rw [show withC (heardM false now false) 1 = 4 from rfl] at he
                    rw [show setM (heardM false now false) 1 (fun p => { p with f6 := mx p.f6 (now + n) }) = heardM false (now + n) false from rfl] at d
                    subst he
                    have HT10 := Aside0.mk d.pt
                    clear d HT9
                    go_wp2_with fail
                    go_roundg gg
                    case measure => omega
                    case rel => exact ⟨i + 1, now + n, false, false, by go_num, rfl, rfl, ⟨by have := HG.out; omega⟩, ⟨by have := HN.out; omega⟩, ⟨(decide_eq_false (by omega)).symm⟩, HT10⟩
                | true =>
                  by_cases hle : now + n ≤ tmo
                  · obtain rfl : b = true := HBB.out.trans (decide_eq_true (by omega))
                    have e2 : decide (tmo < now + n) = false := decide_eq_false (by omega)
                    rw [e2, Bool.not_false, Bool.and_true] at HT5
                    clear e2 HX hx
                    go_wp2_with fail
                    refine ((HT5.out : PT w W5 g 2 tmo (heardM true now true) noB).Get_any 1).mono ?_
                    rw [show atM (heardM true now true) 1 = some (heard1 now) from rfl]
                    rintro e W6 ⟨rfl, hb⟩
                    have HT6 := Aside0.mk (HT5.out.below hb)
                    clear hb HT5
                    go_wp2_with (refine store_new rfl 33 (.tmp 13) (.tmp 79) rfl W6.heap.size (peerC (heard1 now)).toArray rfl rfl 33 _ (heap_alloc_new W6 _) info33z rfl (peer_one _) ?_; intro W7 hW7 hb7; have HT7 := Aside0.mk (HT6.out.below (Below.trans (below_alloc (Below.refl _ _) _) hb7)); clear hW7 hb7 HT6)
                    refine ((HT7.out : PT w W7 g 2 tmo (heardM true now true) noB).Get_any 2).mono ?_
                    rw [show atM (heardM true now true) 2 = some heard2 from rfl]
                    rintro e W8 ⟨rfl, hb⟩
                    have HT8 := Aside0.mk (HT7.out.below hb)
                    clear hb HT7
                    go_wp2_with (refine store_new rfl 33 (.tmp 15) (.tmp 84) rfl W8.heap.size (peerC heard2).toArray rfl rfl 33 _ (heap_alloc_new W8 _) info33z rfl (peer_one _) ?_; intro W9 hW9 hb9; have HT9 := Aside0.mk (HT8.out.below (Below.trans (below_alloc (Below.refl _ _) _) hb9)); clear hW9 hb9 HT8)
                    refine ((HT9.out : PT w W9 g 2 tmo (heardM true now true) noB).Hear_any 1 (now + n)).mono ?_
                    rw [if_pos HTK.out, if_pos HTK.out]
                    rintro e W10 ⟨he, d⟩
                    rw [withC_some (show atM (heardM true now true) 1 = some (heard1 now) from rfl)] at he
                    rw [heard_hear _ _ _ (by omega)] at d
                    subst he
                    have HT10 := Aside0.mk d.pt
                    clear d HT9
                    go_wp2_with fail
                    go_roundg gg
                    case measure => omega
                    case rel => exact ⟨i + 1, now + n, true, true, by go_num, rfl, rfl, ⟨by have := HG.out; omega⟩, ⟨by have := HN.out; omega⟩, ⟨(decide_eq_true hle).symm⟩, HT10⟩
                  · have e2 : decide (tmo < now + n) = true := decide_eq_true (by omega)
                    rw [e2, Bool.not_true, Bool.and_false] at HT5
                    clear e2 HX hx
                    go_wp2_with fail
                    refine ((HT5.out : PT w W5 g 2 tmo (heardM true now false) noB).Get_any 1).mono ?_
                    rw [show atM (heardM true now false) 1 = some (heard1 now) from rfl]
                    rintro e W6 ⟨rfl, hb⟩
                    have HT6 := Aside0.mk (HT5.out.below hb)
                    clear hb HT5
                    go_wp2_with (refine store_new rfl 33 (.tmp 13) (.tmp 79) rfl W6.heap.size (peerC (heard1 now)).toArray rfl rfl 33 _ (heap_alloc_new W6 _) info33z rfl (peer_one _) ?_; intro W7 hW7 hb7; have HT7 := Aside0.mk (HT6.out.below (Below.trans (below_alloc (Below.refl _ _) _) hb7)); clear hW7 hb7 HT6)
                    refine ((HT7.out : PT w W7 g 2 tmo (heardM true now false) noB).Get_any 2).mono ?_
                    rw [show atM (heardM true now false) 2 = none from rfl]
                    rintro e W8 ⟨rfl, hb⟩
                    have HT8 := Aside0.mk (HT7.out.below hb)
                    clear hb HT7
                    go_wp2_with (refine store_new rfl 33 (.tmp 15) (.tmp 84) rfl W8.heap.size (peerC z33).toArray rfl rfl 33 _ (heap_alloc_new W8 _) info33z rfl (peer_one _) ?_; intro W9 hW9 hb9; have HT9 := Aside0.mk (HT8.out.below (Below.trans (below_alloc (Below.refl _ _) _) hb9)); clear hW9 hb9 HT8)
                    refine ((HT9.out : PT w W9 g 2 tmo (heardM true now false) noB).Hear_any 1 (now + n)).mono ?_
                    rw [if_pos HTK.out, if_pos HTK.out]
                    rintro e W10 ⟨he, d⟩
                    rw [withC_some (show atM (heardM true now false) 1 = some (heard1 now) from rfl)] at he
                    rw [heard_hear _ _ _ (by omega)] at d
                    subst he
                    have HT10 := Aside0.mk d.pt
                    clear d HT9
                    go_wp2_with fail
                    go_roundg gg
                    case measure => omega
                    case rel => exact ⟨i + 1, now + n, true, false, by go_num, rfl, rfl, ⟨by have := HG.out; omega⟩, ⟨by have := HN.out; omega⟩, ⟨(decide_eq_false (by omega)).symm⟩, HT10⟩
        · go_wp2
          go_ret
          exact ⟨rfl, HT.out.bel⟩
      · go_wp2
        go_ret
        exact ⟨rfl, HT.out.bel⟩
  · have HNN := Aside0.mk (show ¬ (1 ≤ (2 : Int) ∧ (2 : Int) ≤ 15 ∧ 1 ≤ tmo ∧ tmo ≤ 1099511627776) by omega)
    by_cases ht0 : tmo < 1
    all_goals
      first | (have ht1 : 1099511627776 < tmo := by omega) | skip
      clear htm
      go_enter Try.func4, Try.ntmps4
      go_wp2_with fail
      refine (Print.new_no 2 tmo w HNN.out).mono ?_
      rintro e W1 ⟨rfl, hb1⟩
      have HB1 := Aside0.mk hb1
      clear hb1
      go_wp2_with fail
      refine (awake18 _).mono ?_
      rintro e W2 ⟨rfl, hb⟩
      have HB2 := Aside0.mk (below_step HB1.out hb)
      clear hb HB1
      go_wp2_with fail
      refine (awake18 _).mono ?_
      rintro e W3 ⟨rfl, hb⟩
      have HB3 := Aside0.mk (below_step HB2.out hb)
      clear hb HB2
      go_wp2_with fail
      go_ret
      exact ⟨rfl, HB3.out⟩
end Go.Proofs.Ytpejjpecdkbleaa.Print
