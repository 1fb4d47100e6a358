/- The law that bytes may be written in whichever parts, by hand: the walk. -/
import Derived.Test.YtelcaepenfjloaaPrK
import Derived.Test.YtelcaepenfjloaaMaShaParts
import Derived.Test.YtelcaepenfjloaaMaShaSum2
import Derived.Test.YtelcaepenfjloaaMaShaTop
import Derived.Test.YtelcaepenfjloaaPr25
import Derived.Test.YtelcaepenfjloaaPureSha
import Derived.Test.YtelcaepenfjloaaMaShaParts
import Derived.IntWalk
import Derived.Outline
namespace Go.Proofs.Ytelcaepenfjloaa.Print
open Go.RowKit Go.Proofs.YtelcaepenfjloaaW.PrintWords Go.Proofs.YtelcaepenfjloaaW.PrintLast Go.Proofs.YtelcaepenfjloaaW.PrintMore
open Go.Proofs.Ytelcaepenfjloaa.Pure (awake01)
set_option linter.unusedVariables false
set_option linter.unusedSimpArgs false

def mosaiclaw01_ShaParts.f (l0 : List ByteArray) : Option Bool := some true
set_option maxHeartbeats 4000000 in
set_option maxRecDepth 100000 in
theorem mosaiclaw01_ShaParts.calls (A0 : Option Addr) (c0 : Nat) (l0 : List ByteArray) (r : Bool) (w : World) (hr0 : Kd.C Kd.string w A0 l0.length l0) (hc0 : l0.length ≤ c0) (h : mosaiclaw01_ShaParts.f l0 = some r) :
    Calls Try.prog 6 #[.slice A0 l0.length c0] w fun e w' => e = .returned (.bool r) ∧ Below w.heap.size w w' := by
  obtain rfl := Option.some.inj (show some true = some r from h)
  clear h
  have HR := Aside0.mk hr0
  have HA := Aside0.mk awake01
  clear hr0
  go_enter Try.func6, Try.ntmps6
  go_wp2_with fail
  refine (new_calls w).mono ?_
  rintro e W1 ⟨g, rfl, hb, hg, hh⟩
  have HT := Aside0.mk (show SumAt w W1 g ⟨#[]⟩ from ⟨⟨_, _, _, hh, WrittenI.start⟩, hb, by decide⟩)
  clear hb hg hh
  go_wp2_with (go_at_call 25; refine (mosaiclaw01_awake.calls true _ HA.out).mono ?_; rintro e W3 ⟨rfl, hb⟩; have n0_ := Aside0.mk (HT.out.below hb); clear HT hb; have HT := n0_; clear n0_)
  go_loopg [4, 5] 41 (fun gg v4 v5 wr => ∃ (i : Nat) (all : ByteArray), v4 = .string all ∧ v5 = .int .i64 i ∧ Aside0 (i + gg = 41) ∧ Aside0 (SumAt w wr g all))
  case atStart => exact ⟨0, ⟨#[]⟩, rfl, rfl, ⟨rfl⟩, HT⟩
  case round =>
    clear HT
    obtain ⟨i, all, rfl, rfl, HG, HT⟩ := hrel
    by_cases hgo : (i : Int) < (l0.length : Int) ∧ (i : Int) < 40
    · obtain ⟨hlt, h40⟩ := hgo
      obtain ⟨gg, rfl⟩ : ∃ m, gk = m + 1 := ⟨gk - 1, by have := HG.out; omega⟩
      obtain ⟨ad, hA, hx⟩ := Kd.at_string HR.out (i : Int) (by omega) hlt
      rw [Int.toNat_natCast] at hx
      subst hA
      generalize rdOf ByteArray.empty l0 (i : Int) = s at hx
      have HX := Aside0.mk hx
      clear hx
      have hx : wr.cell? (ad.add i) = some (.string s) := (HT.out.bel.cell (World.block_lt_of_cell? w _ HX.out)).trans HX.out
      have hle := HT.out.le
      by_cases hbig : (s.size : Int) > 5000 - (all.size : Int)
      · go_wp2
        go_roundg gg
        case measure => omega
        case rel => exact ⟨i + 1, all, rfl, by go_num, ⟨by have := HG.out; omega⟩, HT⟩
      · go_wp2_with fail
        refine (HT.out.write s (by omega)).mono ?_
        rintro e W4 ⟨rfl, HT4⟩
        have hx : W4.cell? (ad.add i) = some (.string s) := (HT4.out.bel.cell (World.block_lt_of_cell? w _ HX.out)).trans HX.out
        clear HT
        go_wp2_with fail
        refine HT4.out.len.mono ?_
        rintro e W5 ⟨rfl, HT5⟩
        clear HT4
        have htm : Int.tmod (i : Int) 3 = (i : Int) % 3 := Int.tmod_eq_emod_of_nonneg (by omega)
        by_cases h3 : (i : Int) % 3 = 2
        · have hb3 : (Int.tmod (i : Int) 3 == 2) = true := by rw [htm, h3]; rfl
          have hb4 : ((i : Int) % 3 == 2) = true := by rw [h3]; rfl
          obtain ⟨z, hz⟩ : ∃ z, z = shaSum (all ++ s) := ⟨_, rfl⟩
          have hsum := HT5.out.sum
          have href := refSum_all (all ++ s) HT5.out.le
          rw [← hz] at hsum href
          have HSUM := Aside0.mk hsum
          have HREF := Aside0.mk href
          clear hsum href hz h3 htm
          go_wp2_with fail
          refine HSUM.out.mono ?_
          rintro e W6 ⟨rfl, HT6⟩
          clear HSUM HT5
          go_wp2_with fail
          refine (HREF.out _).mono ?_
          rintro e W7 ⟨rfl, hb⟩
          have HT7 := Aside0.mk (HT6.out.below hb)
          clear hb HT6 HREF
          go_wp2_with fail
          go_roundg gg
          case measure => omega
          case rel => exact ⟨i + 1, all ++ s, rfl, by go_num, ⟨by have := HG.out; omega⟩, HT7⟩
        · have hb3 : (Int.tmod (i : Int) 3 == 2) = false := by rw [htm]; simpa using h3
          have hb4 : ((i : Int) % 3 == 2) = false := by simpa using h3
          clear htm
          go_wp2_with fail
          go_roundg gg
          case measure => omega
          case rel => exact ⟨i + 1, all ++ s, rfl, by go_num, ⟨by have := HG.out; omega⟩, HT5⟩
    · obtain ⟨z, hz⟩ : ∃ z, z = shaSum all := ⟨_, rfl⟩
      have hsum := fun (W : World) (t : SumAt w W g all) => t.sum
      have href := refSum_all all HT.out.le
      have hsha := sha_Sum_all all HT.out.le
      rw [← hz] at hsum href hsha
      have HSUM := Aside0.mk hsum
      have HREF := Aside0.mk href
      have HSHA := Aside0.mk hsha
      clear hsum href hsha hz
      by_cases hlt : (i : Int) < (l0.length : Int)
      all_goals
        first | (have h40 : ¬ (i : Int) < 40 := fun h => hgo ⟨hlt, h⟩) | skip
        clear hgo
        go_wp2_with fail
        refine (HSUM.out _ HT.out).mono ?_
        rintro e W4 ⟨rfl, HT4⟩
        go_wp2_with fail
        refine (HSHA.out _).mono ?_
        rintro e W5 ⟨rfl, hb⟩
        have HT5 := Aside0.mk (HT4.out.below hb)
        clear hb HT4
        go_wp2_with fail
        refine (HSUM.out _ HT5.out).mono ?_
        rintro e W6 ⟨rfl, HT6⟩
        go_wp2_with fail
        refine (HREF.out _).mono ?_
        rintro e W7 ⟨rfl, hb⟩
        have HT7 := Aside0.mk (HT6.out.below hb)
        clear hb HT6
        go_wp2_with fail
        go_ret
        exact ⟨rfl, HT7.out.bel⟩
end Go.Proofs.Ytelcaepenfjloaa.Print
