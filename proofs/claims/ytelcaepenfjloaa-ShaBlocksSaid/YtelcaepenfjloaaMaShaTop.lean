/- sha.Sum: a new sum, written once, asked once. -/
-- MANUAL mosaic/sha.Sum making plain
-- ROOT mosaic/sha.Sum
import Derived.Test.YtelcaepenfjloaaPrK
import Derived.Test.YtelcaepenfjloaaMaSha
import Derived.Test.YtelcaepenfjloaaMaShaMix
import Derived.Test.YtelcaepenfjloaaMaShaSum
import Derived.Test.YtelcaepenfjloaaMaShaSum2
import Derived.Test.YtelcaepenfjloaaPr28
import Derived.IntWalk
namespace Go.Proofs.Ytelcaepenfjloaa.Print
open Go.RowKit Go.Proofs.YtelcaepenfjloaaW.PrintWords Go.Proofs.YtelcaepenfjloaaW.PrintLast Go.Proofs.YtelcaepenfjloaaW.PrintMore
set_option linter.unusedVariables false
set_option linter.unusedSimpArgs false

/-! ### The padding -/
def padL (n : Int) : List Int := [128] ++ List.replicate ((119 - n % 64) % 64).toNat 0 ++ [0, 0, 0, 0, 8 * n / 16777216 % 256, 8 * n / 65536 % 256, 8 * n / 256 % 256, 8 * n % 256]
def padB (n : Int) : ByteArray := strOfNums (padL n)
theorem padL_length (n : Int) (h0 : 0 ≤ n) : (padL n).length = 9 + ((119 - n % 64) % 64).toNat := by
  simp [padL]
  omega
theorem padB_size (n : Int) (h0 : 0 ≤ n) : (padB n).size = 9 + ((119 - n % 64) % 64).toNat := by rw [padB, strOfNums_size, padL_length n h0]
theorem padL_range (n : Int) : ∀ x ∈ padL n, 0 ≤ x ∧ x ≤ 255 := by
  intro x hx
  simp only [padL, List.mem_append, List.mem_cons, List.not_mem_nil, or_false, List.mem_replicate] at hx
  rcases hx with (rfl | ⟨_, rfl⟩) | rfl | rfl | rfl | rfl | rfl | rfl | rfl | rfl <;> omega
theorem pad_step (k : Nat) (n : Int) (acc : List Int) (s : Int) (h0 : 0 ≤ s) (h1 : s ≤ 56) (ha : acc.length < 140737488355328) :
    sha_Pad.l0 (k + 1) n acc s = sha_Pad.l0 k n (acc ++ [(shr .u64 (IntKind.u64.wrap ((IntKind.u64.wrap n) * 8)) s) % 256]) (s - 8) := by
  have e : wrap64 (s - 8) = s - 8 := by unfold wrap64; omega
  simp only [sha_Pad.l0]
  rw [if_pos (by omega), if_pos h0, if_pos ha, e]
theorem u64_in (x : Int) (h0 : 0 ≤ x) (h1 : x < 18446744073709551616) : IntKind.u64.wrap x = x := by
  simp [IntKind.wrap, IntKind.bits, IntKind.signed]
  omega
theorem shr64 (x : Int) (j : Nat) (h : j ≤ 64) : shr .u64 x (j : Int) = x / 2 ^ j := by
  unfold shr
  rw [show min (j : Int).toNat IntKind.u64.bits = j by show min (j : Int).toNat 64 = j; omega]
theorem pad_f (k : Nat) (n : Int) (h0 : 0 ≤ n) (h1 : n ≤ 65536) : sha_Pad.f (k + 11) n = some (padB n) := by
  have e1 : Int.tmod n 64 = n % 64 := Int.tmod_eq_emod_of_nonneg h0
  have e2 : wrap64 (119 - n % 64) = 119 - n % 64 := by unfold wrap64; omega
  have e3 : Int.tmod (119 - n % 64) 64 = (119 - n % 64) % 64 := Int.tmod_eq_emod_of_nonneg (by omega)
  unfold sha_Pad.f
  rw [if_neg (by omega), decide_eq_false (show ¬ n > 65536 by omega)]
  simp only [sha_Pad.j0]
  rw [if_neg (by simp), e1, e2, e3]
  simp only [Option.bind_some]
  rw [if_pos (by omega), if_pos (by simp; omega)]
  rw [pad_step _ _ _ _ (by omega) (by omega) (by simp; omega), pad_step _ _ _ _ (by omega) (by omega) (by simp; omega), pad_step _ _ _ _ (by omega) (by omega) (by simp; omega), pad_step _ _ _ _ (by omega) (by omega) (by simp; omega),
    pad_step _ _ _ _ (by omega) (by omega) (by simp; omega), pad_step _ _ _ _ (by omega) (by omega) (by simp; omega), pad_step _ _ _ _ (by omega) (by omega) (by simp; omega), pad_step _ _ _ _ (by omega) (by omega) (by simp; omega)]
  simp only [sha_Pad.l0]
  rw [if_neg (by omega)]
  unfold padB padL
  have w1 : IntKind.u64.wrap n = n := u64_in n h0 (by omega)
  have w2 : IntKind.u64.wrap (n * 8) = n * 8 := u64_in _ (by omega) (by omega)
  rw [w1, w2]
  have s56 : shr .u64 (n * 8) 56 % 256 = 0 := by rw [show (56 : Int) = ((56 : Nat) : Int) from rfl, shr64 _ _ (by omega)]; omega
  have s48 : shr .u64 (n * 8) (56 - 8) % 256 = 0 := by rw [show (56 - 8 : Int) = ((48 : Nat) : Int) from rfl, shr64 _ _ (by omega)]; omega
  have s40 : shr .u64 (n * 8) (56 - 8 - 8) % 256 = 0 := by rw [show (56 - 8 - 8 : Int) = ((40 : Nat) : Int) from rfl, shr64 _ _ (by omega)]; omega
  have s32 : shr .u64 (n * 8) (56 - 8 - 8 - 8) % 256 = 0 := by rw [show (56 - 8 - 8 - 8 : Int) = ((32 : Nat) : Int) from rfl, shr64 _ _ (by omega)]; omega
  have s24 : shr .u64 (n * 8) (56 - 8 - 8 - 8 - 8) % 256 = 8 * n / 16777216 % 256 := by rw [show (56 - 8 - 8 - 8 - 8 : Int) = ((24 : Nat) : Int) from rfl, shr64 _ _ (by omega)]; omega
  have s16 : shr .u64 (n * 8) (56 - 8 - 8 - 8 - 8 - 8) % 256 = 8 * n / 65536 % 256 := by rw [show (56 - 8 - 8 - 8 - 8 - 8 : Int) = ((16 : Nat) : Int) from rfl, shr64 _ _ (by omega)]; omega
  have s8 : shr .u64 (n * 8) (56 - 8 - 8 - 8 - 8 - 8 - 8) % 256 = 8 * n / 256 % 256 := by rw [show (56 - 8 - 8 - 8 - 8 - 8 - 8 : Int) = ((8 : Nat) : Int) from rfl, shr64 _ _ (by omega)]; omega
  have s0 : shr .u64 (n * 8) (56 - 8 - 8 - 8 - 8 - 8 - 8 - 8) % 256 = 8 * n % 256 := by rw [show (56 - 8 - 8 - 8 - 8 - 8 - 8 - 8 : Int) = ((0 : Nat) : Int) from rfl, shr64 _ _ (by omega)]; omega
  rw [s56, s48, s40, s32, s24, s16, s8, s0]
  simp

/-! ### What was written -/
theorem hashGo_len : ∀ (k : Nat) (st p : List Int) (s : ByteArray), s.size < k → p.length < 64 → st.length = 8 →
    (hashGo k st p s).1.length = 8 ∧ (hashGo k st p s).2.length < 64 ∧ ((hashGo k st p s).2.length : Nat) % 64 = (p.length + s.size) % 64
  | 0, _, _, _, h, _, _ => by omega
  | k + 1, st, p, s, h, hp, hs => by
    have hl : (p ++ bytesOf (s.extract 0 (min (64 - p.length) s.size))).length = p.length + min (64 - p.length) s.size := by
      rw [List.length_append, bytesOf_length]
      simp
    rw [hashGo]
    by_cases c : (p ++ bytesOf (s.extract 0 (min (64 - p.length) s.size))).length = 64
    · rw [if_pos c]
      have h2 : (s.extract (min (64 - p.length) s.size) s.size).size = s.size - min (64 - p.length) s.size := by simp
      obtain ⟨a, b, d⟩ := hashGo_len k (mixB st (p ++ bytesOf (s.extract 0 (min (64 - p.length) s.size)))) [] (s.extract (min (64 - p.length) s.size) s.size) (by omega) (by simp) (mixB_len _ _ hs)
      refine ⟨a, b, ?_⟩
      rw [d, h2]
      simp
      omega
    · rw [if_neg c]
      refine ⟨hs, ?_, ?_⟩
      · show (p ++ _).length < 64
        omega
      · show (p ++ _).length % 64 = _
        rw [hl]
        omega

def shaSum (s : ByteArray) : ByteArray := strOfNums (outB (blocks 3 (hashGo (s.size + 1) startS [] s).1 ((hashGo (s.size + 1) startS [] s).2 ++ bytesOf (padB s.size))))
def sha_Sum.f (a0 : ByteArray) : Option ByteArray := if a0.size ≤ 65536 then some (shaSum a0) else none

set_option maxHeartbeats 800000 in
set_option maxRecDepth 100000 in
theorem sha_Sum.calls (a0 : ByteArray) (r : ByteArray) (w : World) (h : sha_Sum.f a0 = some r) :
    Calls Try.prog 26 #[.string a0] w fun e w' => e = .returned (.string r) ∧ Below w.heap.size w w' := by
  unfold sha_Sum.f at h
  by_cases hs : a0.size ≤ 65536
  · rw [if_pos hs] at h
    have hr := (Option.some.inj h).symm
    clear h
    have HR := Aside0.mk hr
    have HS := Aside0.mk hs
    have HN := Aside0.mk (new_calls w)
    clear hr hs
    go_enter Try.func26, Try.ntmps26
    go_wp2_with (go_at_call 36; refine HN.out.mono ?_; rintro e w1 ⟨g, rfl, hb1, hg1, hw1⟩; have HW1 := Aside0.mk hw1; have HB1 := Aside0.mk hb1; clear hg1 hw1 hb1)
    go_wp2_with (go_at_call 37; refine (write_calls w.heap.size g startS [] _ 0 a0 _ HW1.out HB1.out.size (by simp) (by omega) (by have := HS.out; omega)).mono ?_; rintro e w2 ⟨rfl, hb2, v2, hw2⟩; have HW2 := Aside0.mk hw2; have HB2 := Aside0.mk hb2; clear hw2 hb2)
    have HL := Aside0.mk (hashGo_len (a0.size + 1) startS [] a0 (by omega) (by simp) rfl)
    go_wp2_with (go_at_call 39; refine (hashSum_calls w.heap.size g 11 _ _ v2 _ (padB a0.size) _ HW2.out ?hB ?hp ?hn ?hpad ?hall).mono ?_; (case hB => exact Nat.le_trans HB1.out.size HB2.out.size); (case hp => exact HL.out.2.1); (case hn => rw [Int.zero_add]; exact pad_f 0 _ (by omega) (by have := HS.out; omega)); (case hpad => rw [padB_size _ (by omega)]; omega); (case hall => rw [padB_size _ (by omega)]; have := HL.out.2.2; simp at this; omega); rintro e w3 ⟨rfl, hb3⟩)
    go_ret
    exact ⟨by rw [HR.out]; rfl, (HB1.out.trans HB2.out).trans (hb3.mono (Nat.le_trans HB1.out.size HB2.out.size))⟩
  · rw [if_neg hs] at h
    exact absurd h (by simp)
end Go.Proofs.Ytelcaepenfjloaa.Print
