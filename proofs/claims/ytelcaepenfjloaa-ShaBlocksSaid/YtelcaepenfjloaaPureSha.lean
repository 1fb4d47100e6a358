/- SHA-256 in plain words: the reference's sum is the program's. -/
import Derived.Test.YtelcaepenfjloaaPrK
import Derived.Test.YtelcaepenfjloaaMaSha
import Derived.Test.YtelcaepenfjloaaMaShaMix
import Derived.Test.YtelcaepenfjloaaMaShaSum
import Derived.Test.YtelcaepenfjloaaMaShaSum2
import Derived.Test.YtelcaepenfjloaaMaShaTop
import Derived.Test.YtelcaepenfjloaaPr115
import Derived.Test.YtelcaepenfjloaaPr123
import Derived.Test.YtelcaepenfjloaaPr124
import Derived.Test.YtelcaepenfjloaaPr25
import Derived.Test.YtelcaepenfjloaaPr27
import Derived.Test.YtelcaepenfjloaaPr29
import Derived.Test.YtelcaepenfjloaaPr32
import Derived.Test.YtelcaepenfjloaaPr35
import Derived.Test.YtelcaepenfjloaaPr84
import Derived.Test.YtelcaepenfjloaaPr85
import Derived.Test.YtelcaepenfjloaaPr86
import Derived.Test.YtelcaepenfjloaaPureW
import Derived.Test.YtelcaepenfjloaaPureW
import Derived.Laws.BitsLemmas
namespace Go.Proofs.Ytelcaepenfjloaa.Pure
open Go.RowKit Go.Proofs.Ytelcaepenfjloaa.Print Go.Proofs.YtelcaepenfjloaaW.PrintWords Go.Proofs.YtelcaepenfjloaaW.PrintLast Go.Proofs.YtelcaepenfjloaaW.PrintMore
set_option linter.unusedVariables false
set_option linter.unusedSimpArgs false

theorem bits_or_comm (k : IntKind) (x y : Int) : Go.bits .or k x y = Go.bits .or k y x := by
  simp only [Go.bits, BitVec.or_comm]
theorem ref_rotr_7 (x : Int) : mosaicref01_rotr.f x 7 = some (rotrN x 7) := by
  have h := rotr_7 x
  unfold sha_rotr.f bits_RotateLeft32.f at h
  have e1 : Go.bits .and .u64 (IntKind.u64.wrap (wrap64 (-7))) 31 = 25 := by decide +kernel
  have e2 : IntKind.u64.wrap (32 - 25) = 7 := by decide +kernel
  have e3 : IntKind.u64.wrap (32 - 7) = 25 := by decide +kernel
  rw [e1, if_pos (by omega), e2, if_pos (by omega)] at h
  unfold mosaicref01_rotr.f
  rw [if_pos (by omega), e3, if_pos (by omega), bits_or_comm]
  exact h
theorem ref_rotr_18 (x : Int) : mosaicref01_rotr.f x 18 = some (rotrN x 18) := by
  have h := rotr_18 x
  unfold sha_rotr.f bits_RotateLeft32.f at h
  have e1 : Go.bits .and .u64 (IntKind.u64.wrap (wrap64 (-18))) 31 = 14 := by decide +kernel
  have e2 : IntKind.u64.wrap (32 - 14) = 18 := by decide +kernel
  have e3 : IntKind.u64.wrap (32 - 18) = 14 := by decide +kernel
  rw [e1, if_pos (by omega), e2, if_pos (by omega)] at h
  unfold mosaicref01_rotr.f
  rw [if_pos (by omega), e3, if_pos (by omega), bits_or_comm]
  exact h
theorem ref_rotr_17 (x : Int) : mosaicref01_rotr.f x 17 = some (rotrN x 17) := by
  have h := rotr_17 x
  unfold sha_rotr.f bits_RotateLeft32.f at h
  have e1 : Go.bits .and .u64 (IntKind.u64.wrap (wrap64 (-17))) 31 = 15 := by decide +kernel
  have e2 : IntKind.u64.wrap (32 - 15) = 17 := by decide +kernel
  have e3 : IntKind.u64.wrap (32 - 17) = 15 := by decide +kernel
  rw [e1, if_pos (by omega), e2, if_pos (by omega)] at h
  unfold mosaicref01_rotr.f
  rw [if_pos (by omega), e3, if_pos (by omega), bits_or_comm]
  exact h
theorem ref_rotr_19 (x : Int) : mosaicref01_rotr.f x 19 = some (rotrN x 19) := by
  have h := rotr_19 x
  unfold sha_rotr.f bits_RotateLeft32.f at h
  have e1 : Go.bits .and .u64 (IntKind.u64.wrap (wrap64 (-19))) 31 = 13 := by decide +kernel
  have e2 : IntKind.u64.wrap (32 - 13) = 19 := by decide +kernel
  have e3 : IntKind.u64.wrap (32 - 19) = 13 := by decide +kernel
  rw [e1, if_pos (by omega), e2, if_pos (by omega)] at h
  unfold mosaicref01_rotr.f
  rw [if_pos (by omega), e3, if_pos (by omega), bits_or_comm]
  exact h
theorem ref_rotr_6 (x : Int) : mosaicref01_rotr.f x 6 = some (rotrN x 6) := by
  have h := rotr_6 x
  unfold sha_rotr.f bits_RotateLeft32.f at h
  have e1 : Go.bits .and .u64 (IntKind.u64.wrap (wrap64 (-6))) 31 = 26 := by decide +kernel
  have e2 : IntKind.u64.wrap (32 - 26) = 6 := by decide +kernel
  have e3 : IntKind.u64.wrap (32 - 6) = 26 := by decide +kernel
  rw [e1, if_pos (by omega), e2, if_pos (by omega)] at h
  unfold mosaicref01_rotr.f
  rw [if_pos (by omega), e3, if_pos (by omega), bits_or_comm]
  exact h
theorem ref_rotr_11 (x : Int) : mosaicref01_rotr.f x 11 = some (rotrN x 11) := by
  have h := rotr_11 x
  unfold sha_rotr.f bits_RotateLeft32.f at h
  have e1 : Go.bits .and .u64 (IntKind.u64.wrap (wrap64 (-11))) 31 = 21 := by decide +kernel
  have e2 : IntKind.u64.wrap (32 - 21) = 11 := by decide +kernel
  have e3 : IntKind.u64.wrap (32 - 11) = 21 := by decide +kernel
  rw [e1, if_pos (by omega), e2, if_pos (by omega)] at h
  unfold mosaicref01_rotr.f
  rw [if_pos (by omega), e3, if_pos (by omega), bits_or_comm]
  exact h
theorem ref_rotr_25 (x : Int) : mosaicref01_rotr.f x 25 = some (rotrN x 25) := by
  have h := rotr_25 x
  unfold sha_rotr.f bits_RotateLeft32.f at h
  have e1 : Go.bits .and .u64 (IntKind.u64.wrap (wrap64 (-25))) 31 = 7 := by decide +kernel
  have e2 : IntKind.u64.wrap (32 - 7) = 25 := by decide +kernel
  have e3 : IntKind.u64.wrap (32 - 25) = 7 := by decide +kernel
  rw [e1, if_pos (by omega), e2, if_pos (by omega)] at h
  unfold mosaicref01_rotr.f
  rw [if_pos (by omega), e3, if_pos (by omega), bits_or_comm]
  exact h
theorem ref_rotr_2 (x : Int) : mosaicref01_rotr.f x 2 = some (rotrN x 2) := by
  have h := rotr_2 x
  unfold sha_rotr.f bits_RotateLeft32.f at h
  have e1 : Go.bits .and .u64 (IntKind.u64.wrap (wrap64 (-2))) 31 = 30 := by decide +kernel
  have e2 : IntKind.u64.wrap (32 - 30) = 2 := by decide +kernel
  have e3 : IntKind.u64.wrap (32 - 2) = 30 := by decide +kernel
  rw [e1, if_pos (by omega), e2, if_pos (by omega)] at h
  unfold mosaicref01_rotr.f
  rw [if_pos (by omega), e3, if_pos (by omega), bits_or_comm]
  exact h
theorem ref_rotr_13 (x : Int) : mosaicref01_rotr.f x 13 = some (rotrN x 13) := by
  have h := rotr_13 x
  unfold sha_rotr.f bits_RotateLeft32.f at h
  have e1 : Go.bits .and .u64 (IntKind.u64.wrap (wrap64 (-13))) 31 = 19 := by decide +kernel
  have e2 : IntKind.u64.wrap (32 - 19) = 13 := by decide +kernel
  have e3 : IntKind.u64.wrap (32 - 13) = 19 := by decide +kernel
  rw [e1, if_pos (by omega), e2, if_pos (by omega)] at h
  unfold mosaicref01_rotr.f
  rw [if_pos (by omega), e3, if_pos (by omega), bits_or_comm]
  exact h
theorem ref_rotr_22 (x : Int) : mosaicref01_rotr.f x 22 = some (rotrN x 22) := by
  have h := rotr_22 x
  unfold sha_rotr.f bits_RotateLeft32.f at h
  have e1 : Go.bits .and .u64 (IntKind.u64.wrap (wrap64 (-22))) 31 = 10 := by decide +kernel
  have e2 : IntKind.u64.wrap (32 - 10) = 22 := by decide +kernel
  have e3 : IntKind.u64.wrap (32 - 22) = 10 := by decide +kernel
  rw [e1, if_pos (by omega), e2, if_pos (by omega)] at h
  unfold mosaicref01_rotr.f
  rw [if_pos (by omega), e3, if_pos (by omega), bits_or_comm]
  exact h

theorem wraps_u32 (n : Int) (h₀ : 0 ≤ n) (h₁ : n < 2 ^ 32) : IntKind.u32.wrap n = n := by rw [IntKind.wrap_u32]; omega
theorem u32_or (i : Nat) (x y : Int) (hx₀ : 0 ≤ x) (hx : x % 2 ^ i = 0) (hx₁ : x < 2 ^ 32) (hy₀ : 0 ≤ y) (hy : y < 2 ^ i) (hi : y < 2 ^ 32) : Go.bits .or .u32 x y = x + y :=
  bits_join .u32 32 (by decide) wraps_u32 i x y hx₀ hx hx₁ hy₀ hy hi
theorem bytes_range (s : ByteArray) (i : Int) : 0 ≤ rd (bytesOf s) i ∧ rd (bytesOf s) i ≤ 255 := by rw [rd_bytesOf]; exact bt_range s i
/-- A word of a block. -/
theorem word_eq (b : ByteArray) (i : Nat) (h : 4 * i + 3 < b.size) (hb : b.size ≤ 9223372036854775807) :
    wordN (bytesOf b) (4 * (i : Int)) = ((((((((bt b (4 * (i : Int))) % 4294967296) * 16777216) % 4294967296) + ((((bt b (4 * (i : Int) + 1)) % 4294967296) * 65536) % 4294967296)) % 4294967296) + ((((bt b (4 * (i : Int) + 2)) % 4294967296) * 256) % 4294967296)) % 4294967296 + ((bt b (4 * (i : Int) + 3)) % 4294967296)) % 4294967296 := by
  have hw := word_some (bytesOf b) (4 * (i : Int)) (by omega) (by rw [bytesOf_length]; omega) (by rw [bytesOf_length]; exact hb)
  unfold sha_word.f at hw
  have hl := bytesOf_length b
  have e1 : wrap64 (4 * (i : Int) + 1) = 4 * (i : Int) + 1 := by unfold wrap64; omega
  have e2 : wrap64 (4 * (i : Int) + 2) = 4 * (i : Int) + 2 := by unfold wrap64; omega
  have e3 : wrap64 (4 * (i : Int) + 3) = 4 * (i : Int) + 3 := by unfold wrap64; omega
  rw [e1, e2, e3, hl, if_pos (by omega), if_pos (by omega), if_pos (by omega), if_pos (by omega), if_pos (by omega), if_pos (by omega), if_pos (by omega), if_pos (by omega)] at hw
  have hw := (Option.some.inj hw).symm
  rw [hw, rd_bytesOf, rd_bytesOf, rd_bytesOf, rd_bytesOf]
  have r0 := bt_range b (4 * (i : Int))
  have r1 := bt_range b (4 * (i : Int) + 1)
  have r2 := bt_range b (4 * (i : Int) + 2)
  have r3 := bt_range b (4 * (i : Int) + 3)
  generalize bt b (4 * (i : Int)) = x0 at r0 ⊢
  generalize bt b (4 * (i : Int) + 1) = x1 at r1 ⊢
  generalize bt b (4 * (i : Int) + 2) = x2 at r2 ⊢
  generalize bt b (4 * (i : Int) + 3) = x3 at r3 ⊢
  rw [u32_or 24 (x0 % 4294967296 * 16777216 % 4294967296) (x1 % 4294967296 * 65536 % 4294967296) (by omega) (by omega) (by omega) (by omega) (by omega) (by omega),
    u32_or 16 _ (x2 % 4294967296 * 256 % 4294967296) (by omega) (by omega) (by omega) (by omega) (by omega) (by omega),
    u32_or 8 _ (x3 % 4294967296) (by omega) (by omega) (by omega) (by omega) (by omega) (by omega)]
  omega

theorem getD_pad (y : List Int) (n i : Nat) (h : i < y.length) : (y ++ List.replicate n 0).getD i 0 = y.getD i 0 := by
  simp [List.getD_eq_getElem?_getD, List.getElem?_append_left h]
theorem set_pad (y : List Int) (n : Nat) (v : Int) : (y ++ List.replicate (n + 1) 0).set y.length v = (y ++ [v]) ++ List.replicate n 0 := by
  rw [List.set_append_right _ _ (Nat.le_refl _), Nat.sub_self, List.replicate_succ, List.set_cons_zero, List.append_assoc]
  rfl
theorem words_l1 (l : List Int) (d : Nat) : ∀ (y : List Int), 16 ≤ y.length → y.length + d = 64 → Ev (fun k => mosaicref01_Words.l1 k y (y.length : Int)) (schedL l d y.length (y ++ List.replicate d 0)) := by
  induction d with
  | zero =>
    intro y h0 h
    refine Ev.succ ?_
    simp only [mosaicref01_Words.l1, schedL]
    refine Ev.neg (by omega) (Ev.some_ (by simp))
  | succ d ih =>
    intro y h0 h
    refine Ev.succ ?_
    simp only [mosaicref01_Words.l1, schedL]
    have w15 : wrap64 ((y.length : Int) - 15) = ((y.length - 15 : Nat) : Int) := by unfold wrap64; omega
    have w2 : wrap64 ((y.length : Int) - 2) = ((y.length - 2 : Nat) : Int) := by unfold wrap64; omega
    have w7 : wrap64 ((y.length : Int) - 7) = ((y.length - 7 : Nat) : Int) := by unfold wrap64; omega
    have w16 : wrap64 ((y.length : Int) - 16) = ((y.length - 16 : Nat) : Int) := by unfold wrap64; omega
    rw [w15, w2, w7, w16, wrap_succ _ (by omega), ref_rotr_7, ref_rotr_18, ref_rotr_17, ref_rotr_19]
    simp only [Option.bind_some]
    refine Ev.pos (by omega) (Ev.pos (by omega) (Ev.pos (by omega) (Ev.pos (by omega) (Ev.pos (by omega) (Ev.pos (by omega) (Ev.pos (by omega) (Ev.pos (by omega) (Ev.pos (by omega) (Ev.pos (by omega) ?_)))))))))
    rw [set_pad, sdW_ge _ _ _ (by omega), getD_pad _ _ _ (by omega), getD_pad _ _ _ (by omega), getD_pad _ _ _ (by omega), getD_pad _ _ _ (by omega)]
    simp only [rd_nat]
    have key : ∀ v v' : Int, v = v' → Ev (fun k => mosaicref01_Words.l1 k (y ++ [v]) ((y.length + 1 : Nat) : Int)) (schedL l d (y.length + 1) ((y ++ [v']) ++ List.replicate d 0)) := by
      rintro v v' rfl
      have := ih (y ++ [v]) (by simp; omega) (by simp; omega)
      rw [List.length_append, List.length_singleton] at this
      exact this
    refine key _ _ ?_
    omega
theorem words_l0 (b : ByteArray) (hb : b.size = 64) (d : Nat) : ∀ (y : List Int), y.length + d = 16 → Ev (fun k => mosaicref01_Words.l0 k b y (y.length : Int)) (schedL (bytesOf b) (d + 48) y.length (y ++ List.replicate (d + 48) 0)) := by
  induction d with
  | zero =>
    intro y h
    refine Ev.succ ?_
    simp only [mosaicref01_Words.l0]
    refine Ev.neg (by omega) ?_
    have := words_l1 (bytesOf b) 48 y (by omega) (by omega)
    rw [show (y.length : Int) = 16 by omega] at this
    simpa using this
  | succ d ih =>
    intro y h
    refine Ev.succ ?_
    simp only [mosaicref01_Words.l0]
    have w0 : wrap64 (4 * (y.length : Int)) = 4 * (y.length : Int) := by unfold wrap64; omega
    have w1 : wrap64 (4 * (y.length : Int) + 1) = 4 * (y.length : Int) + 1 := by unfold wrap64; omega
    have w2 : wrap64 (4 * (y.length : Int) + 2) = 4 * (y.length : Int) + 2 := by unfold wrap64; omega
    have w3 : wrap64 (4 * (y.length : Int) + 3) = 4 * (y.length : Int) + 3 := by unfold wrap64; omega
    rw [w0, w1, w2, w3, wrap_succ _ (by omega)]
    refine Ev.pos (by omega) (Ev.pos (by omega) (Ev.pos (by omega) (Ev.pos (by omega) (Ev.pos (by omega) (Ev.pos (by omega) (Ev.pos (by omega) (Ev.pos (by omega) (Ev.pos (by omega) (Ev.pos (by omega) ?_)))))))))
    rw [show d + 1 + 48 = (d + 48) + 1 by omega, schedL, set_pad, sdW, if_pos (by omega), word_eq b y.length (by omega) (by omega)]
    have key : ∀ v : Int, Ev (fun k => mosaicref01_Words.l0 k b (y ++ [v]) ((y.length + 1 : Nat) : Int)) (schedL (bytesOf b) (d + 48) (y.length + 1) ((y ++ [v]) ++ List.replicate (d + 48) 0)) := by
      intro v
      have := ih (y ++ [v]) (by simp; omega)
      rw [List.length_append, List.length_singleton] at this
      exact this
    exact key _
theorem words_ev (b : ByteArray) (hb : b.size = 64) : Ev (fun k => mosaicref01_Words.f k b) (sched (bytesOf b)) := words_l0 b hb 16 [] rfl

theorem max_u32 : IntKind.u32.max = 4294967295 := by decide
theorem mix_l0 (st kk ww : List Int) (hs : st.length = 8) (hk : kk.length = 64) (hw : ww.length = 64) (d : Nat) : ∀ (t : Nat) (a b c e f g h i : Int), t + d = 64 →
    Ev (fun k => mosaicref01_Mix.l0 k st ww kk a b c e f g h i (t : Int)) (mixAdd st 8 0 (mixL kk ww d t [a, b, c, e, f, g, h, i])) := by
  induction d with
  | zero =>
    intro t a b c e f g h i ht
    obtain ⟨s0, s1, s2, s3, s4, s5, s6, s7, rfl⟩ := list8 st hs
    refine Ev.succ ?_
    simp only [mosaicref01_Mix.l0]
    refine Ev.neg (by omega) (Ev.pos (by simp) (Ev.pos (by simp) (Ev.pos (by simp) (Ev.pos (by simp) (Ev.pos (by simp) (Ev.pos (by simp) (Ev.pos (by simp) (Ev.pos (by simp) (Ev.some_ ?_)))))))))
    have : mixAdd [s0, s1, s2, s3, s4, s5, s6, s7] 8 0 (mixL kk ww 0 t [a, b, c, e, f, g, h, i]) = [(a + s0) % 4294967296, (b + s1) % 4294967296, (c + s2) % 4294967296, (e + s3) % 4294967296, (f + s4) % 4294967296, (g + s5) % 4294967296, (h + s6) % 4294967296, (i + s7) % 4294967296] := rfl
    rw [this]
    show [(s0 + a) % 4294967296, (s1 + b) % 4294967296, (s2 + c) % 4294967296, (s3 + e) % 4294967296, (s4 + f) % 4294967296, (s5 + g) % 4294967296, (s6 + h) % 4294967296, (s7 + i) % 4294967296] = _
    simp only [Int.add_comm]
  | succ d ih =>
    intro t a b c e f g h i ht
    refine Ev.succ ?_
    simp only [mosaicref01_Mix.l0]
    rw [ref_rotr_6, ref_rotr_11, ref_rotr_25, ref_rotr_2, ref_rotr_13, ref_rotr_22]
    simp only [Option.bind_some]
    refine Ev.pos (by omega) (Ev.pos (by omega) (Ev.pos (by omega) (Ev.pos (by omega) ?_)))
    rw [wrap_succ _ (by omega)]
    have key : ∀ x x' y y' : Int, x = x' → y = y' → Ev (fun k => mosaicref01_Mix.l0 k st ww kk x a b c y f g h ((t + 1 : Nat) : Int)) (mixAdd st 8 0 (mixL kk ww d (t + 1) [x', a, b, c, y', f, g, h])) := by
      rintro x _ y _ rfl rfl
      exact ih (t + 1) _ _ _ _ _ _ _ _ (by omega)
    rw [mixL, mixStep]
    refine key _ _ _ _ ?_ ?_
    · unfold s1N chN s0N majN
      rw [max_u32, rd_nat, rd_nat]
      omega
    · unfold s1N chN
      rw [max_u32, rd_nat, rd_nat]
      omega
theorem mix_ev (st : List Int) (b : ByteArray) (hs : st.length = 8) (hb : b.size = 64) : Ev (fun k => mosaicref01_Mix.f k st b) (mixB st (bytesOf b)) := by
  unfold mosaicref01_Mix.f
  refine Ev.bind (words_ev b hb) (Ev.call (show mosaicref01_K.f = some constK from rfl) ?_)
  have := mix_l0 st constK (sched (bytesOf b)) hs constK_len (sched_len _) 64 0 (rd st 0) (rd st 1) (rd st 2) (rd st 3) (rd st 4) (rd st 5) (rd st 6) (rd st 7) rfl
  refine Ev.pos (by omega) (Ev.pos (by omega) (Ev.pos (by omega) (Ev.pos (by omega) (Ev.pos (by omega) (Ev.pos (by omega) (Ev.pos (by omega) (Ev.pos (by omega) (this.to ?_))))))))
  obtain ⟨s0, s1, s2, s3, s4, s5, s6, s7, rfl⟩ := list8 st hs
  rfl

/-! ### The padding, the sum -/
theorem refpad_l0 (n : Int) (h0 : 0 ≤ n) (h1 : n ≤ 65536) (d : Nat) : ∀ j : Nat, ((119 - n % 64) % 64).toNat = j + d → Ev (fun k => mosaicref01_Pad.l0 k n ([128] ++ List.replicate j 0)) (padB n) := by
  induction d with
  | zero =>
    intro j hj
    refine Ev.succ ?_
    simp only [mosaicref01_Pad.l0]
    have hl : (([128] ++ List.replicate j (0 : Int)).length : Int) = 1 + j := by simp; omega
    have e1 : wrap64 (n + (1 + (j : Int))) = n + (1 + j) := by unfold wrap64; omega
    have e2 : wrap64 (n + (1 + (j : Int)) + 8) = n + (1 + j) + 8 := by unfold wrap64; omega
    have e3 : Int.tmod (n + (1 + (j : Int)) + 8) 64 = (n + (1 + j) + 8) % 64 := Int.tmod_eq_emod_of_nonneg (by omega)
    have e4 : wrap64 (8 * n) = 8 * n := by unfold wrap64; omega
    rw [hl, e1, e2, e3, e4]
    have q1 : Int.tdiv (8 * n) 16777216 = 8 * n / 16777216 := Int.tdiv_eq_ediv_of_nonneg (by omega)
    have q2 : Int.tdiv (8 * n) 65536 = 8 * n / 65536 := Int.tdiv_eq_ediv_of_nonneg (by omega)
    have q3 : Int.tdiv (8 * n) 256 = 8 * n / 256 := Int.tdiv_eq_ediv_of_nonneg (by omega)
    rw [q1, q2, q3]
    have u1 : wrap64 (8 * n / 16777216) = 8 * n / 16777216 := by unfold wrap64; omega
    have u2 : wrap64 (8 * n / 65536) = 8 * n / 65536 := by unfold wrap64; omega
    have u3 : wrap64 (8 * n / 256) = 8 * n / 256 := by unfold wrap64; omega
    rw [u1, u2, u3]
    have m1 : Int.tmod (8 * n / 65536) 256 = 8 * n / 65536 % 256 := Int.tmod_eq_emod_of_nonneg (by omega)
    have m2 : Int.tmod (8 * n / 256) 256 = 8 * n / 256 % 256 := Int.tmod_eq_emod_of_nonneg (by omega)
    have m3 : Int.tmod (8 * n) 256 = 8 * n % 256 := Int.tmod_eq_emod_of_nonneg (by omega)
    rw [m1, m2, m3]
    refine Ev.pos (by omega) (Ev.some_bind (Ev.pos (by simp; omega) (Ev.some_ ?_)))
    unfold padB padL
    rw [show ((119 - n % 64) % 64).toNat = j by omega]
    congr 1
    congr 1
    simp
  | succ d ih =>
    intro j hj
    refine Ev.succ ?_
    simp only [mosaicref01_Pad.l0]
    have hl : (([128] ++ List.replicate j (0 : Int)).length : Int) = 1 + j := by simp; omega
    have e1 : wrap64 (n + (1 + (j : Int))) = n + (1 + j) := by unfold wrap64; omega
    have e2 : wrap64 (n + (1 + (j : Int)) + 8) = n + (1 + j) + 8 := by unfold wrap64; omega
    have e3 : Int.tmod (n + (1 + (j : Int)) + 8) 64 = (n + (1 + j) + 8) % 64 := Int.tmod_eq_emod_of_nonneg (by omega)
    rw [hl, e1, e2, e3]
    refine Ev.neg (by omega) (Ev.pos (by simp; omega) ?_)
    have := ih (j + 1) (by omega)
    rw [List.replicate_succ', ← List.append_assoc] at this
    exact this
theorem refpad_ev (n : Int) (h0 : 0 ≤ n) (h1 : n ≤ 65536) : Ev (fun k => mosaicref01_Pad.f k n) (padB n) := by
  unfold mosaicref01_Pad.f
  refine Ev.neg (by omega) ?_
  rw [decide_eq_false (show ¬ n > 65536 by omega)]
  refine Ev.succ ?_
  simp only [mosaicref01_Pad.j0]
  exact Ev.neg (by simp) (refpad_l0 n h0 h1 _ 0 (Nat.zero_add _).symm)

theorem bytesOf_append (s t : ByteArray) : bytesOf (s ++ t) = bytesOf s ++ bytesOf t := by
  unfold bytesOf
  rw [ByteArray.data_append, Array.toList_append, List.map_append]
theorem bytesOf_extract (s : ByteArray) (a b : Nat) : bytesOf (s.extract a b) = ((bytesOf s).drop a).take (b - a) := by
  unfold bytesOf
  rw [ByteArray.data_extract, Array.toList_extract, List.map_take, List.map_drop]
theorem blocks_more : ∀ (k k' : Nat) (st l : List Int), l.length ≤ 64 * k → l.length ≤ 64 * k' → blocks k st l = blocks k' st l
  | 0, 0, _, _, _, _ => rfl
  | 0, k' + 1, st, l, h, _ => by rw [blocks, blocks, if_neg (by omega)]
  | k + 1, 0, st, l, _, h => by rw [blocks, blocks, if_neg (by omega)]
  | k + 1, k' + 1, st, l, h, h' => by
    rw [blocks, blocks, blocks_more k k' _ _ (by rw [List.length_drop]; omega) (by rw [List.length_drop]; omega)]
theorem hashGo_blocks : ∀ (k : Nat) (st p : List Int) (s : ByteArray) (pad : List Int) (K : Nat), s.size < k → p.length < 64 → pad.length ≤ 72 → p.length + s.size + pad.length ≤ 64 * K →
    blocks 3 (hashGo k st p s).1 ((hashGo k st p s).2 ++ pad) = blocks K st (p ++ bytesOf s ++ pad)
  | 0, st, p, s, pad, K, h, _, _, _ => by omega
  | k + 1, st, p, s, pad, K, h, hp, hd, hK => by
    have hl : (p ++ bytesOf (s.extract 0 (min (64 - p.length) s.size))).length = p.length + min (64 - p.length) s.size := by
      rw [List.length_append, bytesOf_length]
      simp
    have hs := bytesOf_length s
    rw [hashGo]
    by_cases c : (p ++ bytesOf (s.extract 0 (min (64 - p.length) s.size))).length = 64
    · rw [if_pos c]
      have h2 : (s.extract (min (64 - p.length) s.size) s.size).size = s.size - min (64 - p.length) s.size := by simp
      obtain ⟨K, rfl⟩ : ∃ m, K = m + 1 := ⟨K - 1, by omega⟩
      rw [hashGo_blocks k _ [] _ pad K (by omega) (by simp) hd (by simp only [List.length_nil]; omega)]
      have hm : min (64 - p.length) s.size = 64 - p.length := by omega
      rw [blocks, if_pos (by simp only [List.length_append]; omega)]
      rw [hm, bytesOf_extract, bytesOf_extract, List.drop_zero, Nat.sub_zero, List.nil_append]
      have e1 : ((bytesOf s).drop (64 - p.length)).take (s.size - (64 - p.length)) = (bytesOf s).drop (64 - p.length) := List.take_of_length_le (by rw [List.length_drop, hs]; omega)
      rw [e1]
      have e2 : (p ++ bytesOf s ++ pad).take 64 = p ++ (bytesOf s).take (64 - p.length) := by
        rw [List.append_assoc, List.take_append, List.take_of_length_le (by omega), List.take_append, show 64 - p.length - (bytesOf s).length = 0 by omega, List.take_zero, List.append_nil]
      have e3 : (p ++ bytesOf s ++ pad).drop 64 = (bytesOf s).drop (64 - p.length) ++ pad := by
        rw [List.append_assoc, List.drop_append, List.drop_of_length_le (by omega), List.nil_append, List.drop_append, show 64 - p.length - (bytesOf s).length = 0 by omega, List.drop_zero]
      rw [e2, e3]
    · rw [if_neg c]
      have hm : min (64 - p.length) s.size = s.size := by omega
      have e : bytesOf (s.extract 0 (min (64 - p.length) s.size)) = bytesOf s := by
        rw [hm, bytesOf_extract, List.drop_zero, Nat.sub_zero]
        exact List.take_of_length_le (by omega)
      rw [e]
      refine blocks_more _ _ _ _ ?_ ?_
      · simp only [List.length_append]
        omega
      · simp only [List.length_append]
        omega
theorem bytesOf_strOfNums (l : List Int) (h : ∀ x ∈ l, 0 ≤ x ∧ x ≤ 255) : bytesOf (strOfNums l) = l := by
  unfold bytesOf
  rw [strOfNums_data, List.map_map]
  conv => rhs; rw [← List.map_id l]
  refine List.map_congr_left fun x hx => ?_
  have := h x hx
  have e : (UInt8.ofNat x.toNat).toNat = x.toNat := UInt8.toNat_ofNat_of_lt' (by show x.toNat < 256; omega)
  simp only [Function.comp, e, id]
  omega
/-- The sum, block by block. -/
theorem shaSum_eq (s : ByteArray) (h : s.size ≤ 65536) (K : Nat) (hK : s.size + 72 ≤ 64 * K) : shaSum s = strOfNums (outB (blocks K startS (bytesOf s ++ padL s.size))) := by
  have hl := padL_length (s.size : Int) (by omega)
  unfold shaSum
  rw [padB, bytesOf_strOfNums _ (padL_range _), hashGo_blocks (s.size + 1) startS [] s (padL s.size) K (by omega) (by simp) (by omega) (by simp only [List.length_nil]; omega), List.nil_append]
theorem refsum_l1 (st acc : List Int) (hs : st.length = 8) (d : Nat) : ∀ (i : Nat) (acc : List Int), i + d = 8 → acc.length = 4 * i → Ev (fun k => mosaicref01_Sum.l1 k st acc (i : Int)) (strOfNums (acc ++ outB (st.drop i))) := by
  induction d with
  | zero =>
    intro i acc hi ha
    refine Ev.succ ?_
    simp only [mosaicref01_Sum.l1]
    refine Ev.neg (by omega) (Ev.some_ ?_)
    rw [List.drop_of_length_le (by omega)]
    simp [outB]
  | succ d ih =>
    intro i acc hi ha
    refine Ev.succ ?_
    simp only [mosaicref01_Sum.l1]
    refine Ev.pos (by omega) (Ev.pos (by omega) (Ev.some_bind (Ev.pos (by simp; omega) ?_)))
    rw [wrap_succ _ (by omega), outB_step st i (by omega), ← List.append_assoc, rd_nat]
    exact ih (i + 1) _ (by omega) (by simp; omega)
theorem refsum_l0 (t : ByteArray) (ht : t.size ≤ 100000) (d : Nat) : ∀ (st : List Int) (i : Nat), t.size = i + 64 * d → st.length = 8 → Ev (fun k => mosaicref01_Sum.l0 k t st (i : Int)) (strOfNums (outB (blocks d st ((bytesOf t).drop i)))) := by
  induction d with
  | zero =>
    intro st i hi hs
    refine Ev.succ ?_
    simp only [mosaicref01_Sum.l0, blocks]
    refine Ev.neg (by omega) ?_
    have := refsum_l1 st [] hs 8 0 [] rfl rfl
    simpa using this
  | succ d ih =>
    intro st i hi hs
    refine Ev.succ ?_
    simp only [mosaicref01_Sum.l0]
    have e1 : wrap64 ((i : Int) + 64) = ((i + 64 : Nat) : Int) := by unfold wrap64; omega
    have hl := bytesOf_length t
    rw [e1]
    refine Ev.pos (by omega) (Ev.pos (by omega) (Ev.pos (by omega) (Ev.pos (by omega) ?_)))
    have hx : (t.extract ((i : Int)).toNat (((i + 64 : Nat) : Int)).toNat).size = 64 := by simp; omega
    have hm := mix_ev st _ hs hx
    refine Ev.bind hm ?_
    have hb : bytesOf (t.extract ((i : Int)).toNat (((i + 64 : Nat) : Int)).toNat) = ((bytesOf t).drop i).take 64 := by
      rw [bytesOf_extract]
      congr 1
      omega
    rw [hb, blocks, if_pos (by rw [List.length_drop]; omega), List.drop_drop]
    exact ih _ (i + 64) (by omega) (mixB_len _ _ hs)
/-- The reference's sum is the program's. -/
theorem refsum_ev (s : ByteArray) (h : s.size ≤ 65536) : Ev (fun k => mosaicref01_Sum.f k s) (shaSum s) := by
  have hp := padB_size (s.size : Int) (by omega)
  have hz : (s ++ padB s.size).size = s.size + (padB s.size).size := by rw [ByteArray.size_append]
  unfold mosaicref01_Sum.f
  refine Ev.neg (by omega) (Ev.bind (refpad_ev _ (by omega) (by omega)) (Ev.pos (by omega) (Ev.call (show mosaicref01_Start.f = some startS from rfl) ?_)))
  have := refsum_l0 (s ++ padB s.size) (by omega) ((s ++ padB s.size).size / 64) startS 0 (by omega) rfl
  refine this.to ?_
  rw [shaSum_eq s h ((s.size + 72) / 64 + 1) (by omega), List.drop_zero, bytesOf_append, padB, bytesOf_strOfNums _ (padL_range _)]
  have hl := padL_length (s.size : Int) (by omega)
  have hb := bytesOf_length s
  congr 2
  refine blocks_more _ _ _ _ ?_ ?_
  · rw [List.length_append]
    rw [← padB, hz]
    omega
  · rw [List.length_append]
    omega
theorem outB_length (st : List Int) : (outB st).length = 4 * st.length := by
  induction st with
  | nil => rfl
  | cons a l ih => rw [outB, List.flatMap_cons, List.length_append, ← outB, ih]; simp; omega
theorem blocks_len : ∀ (k : Nat) (st l : List Int), st.length = 8 → (blocks k st l).length = 8
  | 0, _, _, h => h
  | k + 1, st, l, h => by
    rw [blocks]
    split
    · exact blocks_len k _ _ (mixB_len _ _ h)
    · exact h
theorem shaSum_size (s : ByteArray) : (shaSum s).size = 32 := by
  unfold shaSum
  rw [strOfNums_size, outB_length, blocks_len _ _ _ (hashGo_len _ _ _ _ (by omega) (by simp) rfl).1]
theorem sha_f (s : ByteArray) (h : s.size ≤ 65536) : sha_Sum.f s = some (shaSum s) := if_pos h
theorem awake01 : mosaiclaw01_awake.f = some true := by decide +kernel
end Go.Proofs.Ytelcaepenfjloaa.Pure
