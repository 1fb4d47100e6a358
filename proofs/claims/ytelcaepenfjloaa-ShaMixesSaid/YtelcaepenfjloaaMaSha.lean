/- sha: the words of a block, the state that a block is mixed into (arrays by value). -/
-- ROOT mosaic/sha.mix
import Derived.Test.YtelcaepenfjloaaPrK
import Derived.Test.YtelcaepenfjloaaPr115
import Derived.Test.YtelcaepenfjloaaPr123
import Derived.Test.YtelcaepenfjloaaPr124
import Derived.Test.YtelcaepenfjloaaPr85
import Derived.StillTailTactics
import Derived.Deep.QuietTactic
import Derived.BigQuiet
import Derived.IntWalk
import Derived.Laws.CopyOwn
namespace Go.Proofs.Ytelcaepenfjloaa.Print
open Go.RowKit Go.Proofs.YtelcaepenfjloaaW.PrintWords Go.Proofs.YtelcaepenfjloaaW.PrintLast Go.Proofs.YtelcaepenfjloaaW.PrintMore
set_option linter.unusedVariables false
set_option linter.unusedSimpArgs false

/-- Block g holds the words x: an array of type t. -/
structure Blk (w : World) (g t : Nat) (x : List Int) : Prop where
  out : w.heap[g]? = some (.cells (x.map (Value.int .u32)).toArray t (0, 0))
theorem Blk.at {w : World} {g t : Nat} {x : List Int} (h : Blk w g t x) (i : Nat) (hi : i < x.length) : w.cell? ⟨g, i, none⟩ = some (.int .u32 (x.getD i 0)) := by
  rw [blk_cell h.out]
  simp [List.getD_eq_getElem?_getD, hi]
theorem Blk.frozen {w : World} {g t : Nat} {x : List Int} (h : Blk w g t x) (i : Nat) : w.frozen? ⟨g, i, none⟩ = false := blk_frozen h.out i
theorem Blk.set {w : World} {g t : Nat} {x : List Int} (h : Blk w g t x) (i : Nat) (u : Int) : Blk (w.setCell ⟨g, i, none⟩ (.int .u32 u)) g t (x.set i u) :=
  ⟨by rw [blk_set h.out]; simp [List.map_set]⟩
theorem Blk.drew {w : World} {g t : Nat} {x : List Int} (h : Blk w g t x) (n : Nat) : Blk (w.drewN n) g t x := ⟨h.out⟩
theorem Blk.below {w w1 : World} {g t : Nat} {x : List Int} (h : Blk w g t x) (hb : Below w.heap.size w w1) : Blk w1 g t x := ⟨blk_below h.out hb⟩
theorem Blk.far {w : World} {g t : Nat} {x : List Int} (h : Blk w g t x) {p : Addr} (hp : g ≠ p.block) (u : Value) : Blk (w.setCell p u) g t x := ⟨blk_far h.out hp u⟩
theorem Blk.alloc {w : World} {g t : Nat} {x : List Int} (h : Blk w g t x) (o : Obj) : Blk (w.alloc o) g t x := ⟨blk_alloc h.out o⟩
theorem Blk.new (w : World) (g t : Nat) (x : List Int) (cs : Array Value) (hg : g = w.heap.size) (h : cs = (x.map (Value.int .u32)).toArray) : Blk (w.alloc (.cells cs t)) g t x := ⟨by subst hg; subst h; exact heap_alloc_new w _⟩
theorem Blk.row {w : World} {g t : Nat} {x : List Int} (h : Blk w g t x) (y : List Int) : Blk (w.setRow g (y.map (Value.int .u32)).toArray) g t y := ⟨by simp [World.setRow, Array.getElem?_modify, h.out]⟩
theorem below_row {w W : World} {g : Nat} (h : Below w.heap.size w W) (hg : w.heap.size ≤ g) (cs : Array Value) : Below w.heap.size w (W.setRow g cs) := below_setRow h hg cs
theorem info64 : (Try.prog.info? 144).map (·.size) = some 64 := by kernel_rfl
theorem info8 : (Try.prog.info? 28).map (·.size) = some 8 := by kernel_rfl
theorem blk_size64 {x : List Int} (h : x.length = 64) : (Try.prog.info? 144).map (·.size) = some (x.map (Value.int .u32)).toArray.size := info64.trans (by simp [h])
theorem blk_size8 {x : List Int} (h : x.length = 8) : (Try.prog.info? 28).map (·.size) = some (x.map (Value.int .u32)).toArray.size := info8.trans (by simp [h])
theorem blk_one (x : List Int) : (x.map (Value.int .u32)).toArray.all (·.oneCell') = true := by simp [Value.oneCell']
theorem blk_same {x y : List Int} (h : x.length = y.length) : (x.map (Value.int .u32)).toArray.size = (y.map (Value.int .u32)).toArray.size := by simp [h]
theorem blk_zero64 {x : List Int} (h : x.length = 64) : ((List.replicate 64 (0 : Int)).map (Value.int .u32)).toArray.size = (x.map (Value.int .u32)).toArray.size := blk_same (by simp [h])

def rotrN (x n : Int) : Int := (sha_rotr.f x n).getD 0
def wordN (l : List Int) (i : Int) : Int := (sha_word.f l i).getD 0
/-- The word that is number t. -/
def sdW (l x : List Int) (t : Nat) : Int :=
  if t < 16 then wordN l (4 * t) else
    (Go.bits .xor .u32 (Go.bits .xor .u32 (rotrN (x.getD (t - 2) 0) 17) (rotrN (x.getD (t - 2) 0) 19)) (x.getD (t - 2) 0 / 1024) + x.getD (t - 7) 0 + Go.bits .xor .u32 (Go.bits .xor .u32 (rotrN (x.getD (t - 15) 0) 7) (rotrN (x.getD (t - 15) 0) 18)) (x.getD (t - 15) 0 / 8) + x.getD (t - 16) 0) % 4294967296
theorem sdW_ge (l x : List Int) (t : Nat) (h : ¬ t < 16) : sdW l x t = (Go.bits .xor .u32 (Go.bits .xor .u32 (rotrN (x.getD (t - 2) 0) 17) (rotrN (x.getD (t - 2) 0) 19)) (x.getD (t - 2) 0 / 1024) + x.getD (t - 7) 0 + Go.bits .xor .u32 (Go.bits .xor .u32 (rotrN (x.getD (t - 15) 0) 7) (rotrN (x.getD (t - 15) 0) 18)) (x.getD (t - 15) 0 / 8) + x.getD (t - 16) 0) % 4294967296 := by rw [sdW, if_neg h]
def schedL (l : List Int) : Nat → Nat → List Int → List Int
  | 0, _, x => x
  | k + 1, t, x => schedL l k (t + 1) (x.set t (sdW l x t))
def sched (l : List Int) : List Int := schedL l 64 0 (List.replicate 64 0)

theorem rotr_7 (x : Int) : sha_rotr.f x 7 = some (rotrN x 7) := by
  unfold rotrN sha_rotr.f bits_RotateLeft32.f
  rw [if_pos (by decide +kernel), if_pos (by decide +kernel)]
  rfl
theorem rotr_18 (x : Int) : sha_rotr.f x 18 = some (rotrN x 18) := by
  unfold rotrN sha_rotr.f bits_RotateLeft32.f
  rw [if_pos (by decide +kernel), if_pos (by decide +kernel)]
  rfl
theorem rotr_17 (x : Int) : sha_rotr.f x 17 = some (rotrN x 17) := by
  unfold rotrN sha_rotr.f bits_RotateLeft32.f
  rw [if_pos (by decide +kernel), if_pos (by decide +kernel)]
  rfl
theorem rotr_19 (x : Int) : sha_rotr.f x 19 = some (rotrN x 19) := by
  unfold rotrN sha_rotr.f bits_RotateLeft32.f
  rw [if_pos (by decide +kernel), if_pos (by decide +kernel)]
  rfl
theorem rotr_6 (x : Int) : sha_rotr.f x 6 = some (rotrN x 6) := by
  unfold rotrN sha_rotr.f bits_RotateLeft32.f
  rw [if_pos (by decide +kernel), if_pos (by decide +kernel)]
  rfl
theorem rotr_11 (x : Int) : sha_rotr.f x 11 = some (rotrN x 11) := by
  unfold rotrN sha_rotr.f bits_RotateLeft32.f
  rw [if_pos (by decide +kernel), if_pos (by decide +kernel)]
  rfl
theorem rotr_25 (x : Int) : sha_rotr.f x 25 = some (rotrN x 25) := by
  unfold rotrN sha_rotr.f bits_RotateLeft32.f
  rw [if_pos (by decide +kernel), if_pos (by decide +kernel)]
  rfl
theorem rotr_2 (x : Int) : sha_rotr.f x 2 = some (rotrN x 2) := by
  unfold rotrN sha_rotr.f bits_RotateLeft32.f
  rw [if_pos (by decide +kernel), if_pos (by decide +kernel)]
  rfl
theorem rotr_13 (x : Int) : sha_rotr.f x 13 = some (rotrN x 13) := by
  unfold rotrN sha_rotr.f bits_RotateLeft32.f
  rw [if_pos (by decide +kernel), if_pos (by decide +kernel)]
  rfl
theorem rotr_22 (x : Int) : sha_rotr.f x 22 = some (rotrN x 22) := by
  unfold rotrN sha_rotr.f bits_RotateLeft32.f
  rw [if_pos (by decide +kernel), if_pos (by decide +kernel)]
  rfl
theorem word_some (l : List Int) (i : Int) (h0 : 0 ≤ i) (h1 : i + 3 < l.length) (hl : l.length ≤ 9223372036854775807) : sha_word.f l i = some (wordN l i) := by
  have e1 : wrap64 (i + 1) = i + 1 := by unfold wrap64; omega
  have e2 : wrap64 (i + 2) = i + 2 := by unfold wrap64; omega
  have e3 : wrap64 (i + 3) = i + 3 := by unfold wrap64; omega
  unfold wordN sha_word.f
  rw [e1, e2, e3, if_pos (by omega), if_pos (by omega), if_pos (by omega), if_pos (by omega), if_pos (by omega), if_pos (by omega), if_pos (by omega), if_pos (by omega)]
  rfl

set_option maxHeartbeats 4000000 in
set_option maxRecDepth 100000 in
theorem schedule_calls (A : Option Addr) (c : Nat) (l : List Int) (w : World) (hr : Kd.C (Kd.int .u8) w A l.length l) (hc : l.length ≤ c) (h64 : 64 ≤ l.length) (hl : l.length ≤ 9223372036854775807) :
    Calls Try.prog 113 #[.slice A l.length c] w fun e w' => e = .returned (.agg ((sched l).map (Value.int .u32)).toArray) ∧ Below w.heap.size w w' := by
  have HR := Aside0.mk hr
  have HC := Aside0.mk hc
  have HL := Aside0.mk h64
  have HM := Aside0.mk hl
  clear hr hc h64 hl
  obtain ⟨res, hres⟩ : ∃ res, res = sched l := ⟨_, rfl⟩
  rw [← hres]
  have HRES := Aside0.mk hres
  clear hres
  go_enter Try.func113, Try.ntmps113
  go_wp2
  go_loopg [4, 5, 6, 7, 8, 9] 64 (fun gg _ _ _ _ _ s9 wr => ∃ (t : Nat) (x : List Int), t + gg = 64 ∧ s9 = .int .i64 (t : Int) ∧ Aside0 (x.length = 64) ∧ Aside0 (res = schedL l gg t x) ∧ Aside0 (Blk wr (w.heap.size + 1) 144 x) ∧ Aside0 (Blk wr w.heap.size 144 (List.replicate 64 0)) ∧ Aside0 (Below w.heap.size w wr))
  case atStart => exact ⟨0, _, rfl, rfl, ⟨List.length_replicate⟩, ⟨HRES.out⟩, ⟨Blk.new _ _ _ _ _ (by simp) rfl⟩, ⟨by refine Blk.alloc (Blk.new _ _ _ _ _ ?_ ?_) _ <;> rfl⟩, ⟨below_alloc (below_alloc (Below.refl _ _) _) _⟩⟩
  case round =>
    clear HRES
    obtain ⟨t, x, ht, rfl, HX, HA, HG, HG0, HB⟩ := hrel
    by_cases hlt : t < 64
    · obtain ⟨gg, rfl⟩ : ∃ m, gk = m + 1 := ⟨gk - 1, by omega⟩
      have hltz : (t : Int) < 64 := by omega
      by_cases h16 : t < 16
      · have h16z : (t : Int) < 16 := by omega
        have e4 : wrap64 (4 * (t : Int)) = 4 * t := by unfold wrap64; omega
        have hw := word_some l (4 * t) (by omega) (by have := HL.out; omega) HM.out
        have HW := Aside0.mk hw
        have hf := HG.out.frozen t
        have hcell := HG.out.at t (by have := HX.out; omega)
        clear hw
        go_wp2_with (go_at_call 123; refine (sha_word.calls A c l (4 * t) _ _ (Kd.C_below HR.out HB.out) HC.out HW.out).mono ?_; rintro e w' ⟨rfl, ⟨⟨nd, rfl⟩⟩⟩)
        go_roundg gg
        case measure => omega
        case rel => exact ⟨t + 1, x.set t (sdW l x t), by omega, by go_num, ⟨by rw [List.length_set]; exact HX.out⟩, ⟨HA.out⟩, ⟨by have := (HG.out.drew nd).set t (wordN l (4 * t)); rw [sdW, if_pos h16]; exact this⟩, ⟨(HG0.out.drew nd).far (by simp) _⟩, ⟨(pw_below_drewN HB.out nd).setCell (by simp) _⟩⟩
      · have h16z : ¬ (t : Int) < 16 := by omega
        have hx := HX.out
        have l15 := HG.out.at (t - 15) (by omega)
        have l2 := HG.out.at (t - 2) (by omega)
        have l7 := HG.out.at (t - 7) (by omega)
        have l16 := HG.out.at (t - 16) (by omega)
        have hsd := sdW_ge l x t h16
        generalize x.getD (t - 15) 0 = a15 at l15 hsd
        generalize x.getD (t - 2) 0 = a2 at l2 hsd
        generalize x.getD (t - 7) 0 = a7 at l7 hsd
        generalize x.getD (t - 16) 0 = a16 at l16 hsd
        have R7 := Aside0.mk (rotr_7 a15)
        have R18 := Aside0.mk (rotr_18 a15)
        have R17 := Aside0.mk (rotr_17 a2)
        have R19 := Aside0.mk (rotr_19 a2)
        generalize rotrN a15 7 = r7 at R7 hsd
        generalize rotrN a15 18 = r18 at R18 hsd
        generalize rotrN a2 17 = r17 at R17 hsd
        generalize rotrN a2 19 = r19 at R19 hsd
        have HSD := Aside0.mk hsd
        clear hsd
        have w15 : IntKind.i64.wrap ((t : Int) - 15) = t - 15 := IntWalk.i64_in _ (by omega)
        have w2 : IntKind.i64.wrap ((t : Int) - 2) = t - 2 := IntWalk.i64_in _ (by omega)
        have p15 : 0 ≤ (t : Int) - 15 := by omega
        have p2 : 0 ≤ (t : Int) - 2 := by omega
        have q15 : (t : Int) - 15 < 64 := by omega
        have q2 : (t : Int) - 2 < 64 := by omega
        have n15 : ((t : Int) - 15).toNat = t - 15 := by omega
        have n2 : ((t : Int) - 2).toNat = t - 2 := by omega
        go_wp2
        go_quiet (fail)
        go_wp2_with (go_at_call 115; first | (with_reducible refine (sha_rotr.calls _ _ _ _ R7.out).mono ?_; rintro e w1 ⟨rfl, ⟨⟨nd1, rfl⟩⟩⟩) | (with_reducible refine (sha_rotr.calls _ _ _ _ R18.out).mono ?_; rintro e w2 ⟨rfl, ⟨⟨nd2, rfl⟩⟩⟩) | (with_reducible refine (sha_rotr.calls _ _ _ _ R17.out).mono ?_; rintro e w3 ⟨rfl, ⟨⟨nd3, rfl⟩⟩⟩) | (with_reducible refine (sha_rotr.calls _ _ _ _ R19.out).mono ?_; rintro e w4 ⟨rfl, ⟨⟨nd4, rfl⟩⟩⟩))
        clear l15 l2 w15 w2 p15 p2 q15 q2 n15 n2
        generalize nq + nd1 + nd2 + nd3 + nd4 = nn
        have w7 : IntKind.i64.wrap ((t : Int) - 7) = t - 7 := IntWalk.i64_in _ (by omega)
        have w16 : IntKind.i64.wrap ((t : Int) - 16) = t - 16 := IntWalk.i64_in _ (by omega)
        have p7 : 7 ≤ (t : Int) := by omega
        have p16 : 16 ≤ (t : Int) := by omega
        have q7 : (t : Int) - 7 < 64 := by omega
        have q16 : (t : Int) - 16 < 64 := by omega
        have n7 : ((t : Int) - 7).toNat = t - 7 := by omega
        have n16 : ((t : Int) - 16).toNat = t - 16 := by omega
        have p0 : 0 ≤ (t : Int) := by omega
        refine wp_region_still_tail 15 (by kernel_rfl) (by kernel_rfl) ?_
        change wpStill _ _ (wr.drewN nn).drew (fun a' => wpList _ _ _ _ a' (wr.drewN nn).drew) _ _
        have hf : (wr.drewN nn).drew.frozen? ⟨w.heap.size + 1, t, none⟩ = false := HG.out.frozen t
        have l0 : (wr.drewN nn).drew.cell? ⟨w.heap.size + 1, t, none⟩ = _ := HG.out.at t (by omega)
        have k7 : (wr.drewN nn).drew.cell? ⟨w.heap.size + 1, t - 7, none⟩ = _ := l7
        have k16 : (wr.drewN nn).drew.cell? ⟨w.heap.size + 1, t - 16, none⟩ = _ := l16
        have G6 := Aside0.mk ((HG.out.drew nn).drew 1)
        have G06 := Aside0.mk ((HG0.out.drew nn).drew 1)
        have B6 := Aside0.mk (pw_below_drewN (pw_below_drewN HB.out nn) 1)
        clear l7 l16 HG HG0 HB
        generalize hw6 : (wr.drewN nn).drew = w6 at hf l0 k7 k16 ⊢
        simp only [List.take_succ_cons, List.take_zero, List.drop_succ_cons, List.drop_zero]
        repeat still_step
        refine wpStill_nil ?_
        go_wp2
        rw [← HSD.out]
        go_roundg gg
        case measure => omega
        case rel => exact ⟨t + 1, x.set t (sdW l x t), by omega, by go_num, ⟨by rw [List.length_set]; exact hx⟩, ⟨HA.out⟩, ⟨hw6 ▸ G6.out.set t _⟩, ⟨hw6 ▸ G06.out.far (by simp) _⟩, ⟨hw6 ▸ B6.out.setCell (by simp) _⟩⟩
    · have hltz : ¬ (t : Int) < 64 := by omega
      have h0 : gk = 0 := by omega
      subst h0
      have hs := blk_size64 HX.out
      have hone := blk_one x
      have hz := blk_zero64 HX.out
      go_wp2_with (first | (refine wpList_load_row rfl 144 (.tmp 3) rfl (w.heap.size + 1) rfl 144 _ (0, 0) _ HG.out.out Try.underlying144 rfl hs ?_) | (refine wpList_store_row rfl 144 (.tmp 2) (.tmp 60) rfl w.heap.size _ rfl rfl 144 _ HG0.out.out hs hz hone ?_))
      have hres : res = x := HA.out
      subst hres
      refine bodyPost_ret (results_cell_row rfl _ _ w.heap.size 144 _ (0, 0) _ rfl (HG0.out.row _).out Try.underlying144 rfl hs) rfl ?_
      exact ⟨rfl, below_row HB.out (Nat.le_refl _) _⟩

def constK : List Int := (mosaicref01_K.f).getD []
theorem constK_eq : constK = [1116352408, 1899447441, 3049323471, 3921009573, 961987163, 1508970993, 2453635748, 2870763221, 3624381080, 310598401, 607225278, 1426881987, 1925078388, 2162078206, 2614888103, 3248222580, 3835390401, 4022224774, 264347078, 604807628, 770255983, 1249150122, 1555081692, 1996064986, 2554220882, 2821834349, 2952996808, 3210313671, 3336571891, 3584528711, 113926993, 338241895, 666307205, 773529912, 1294757372, 1396182291, 1695183700, 1986661051, 2177026350, 2456956037, 2730485921, 2820302411, 3259730800, 3345764771, 3516065817, 3600352804, 4094571909, 275423344, 430227734, 506948616, 659060556, 883997877, 958139571, 1322822218, 1537002063, 1747873779, 1955562222, 2024104815, 2227730452, 2361852424, 2428436474, 2756734187, 3204031479, 3329325298] := rfl
theorem constK_len : constK.length = 64 := rfl
set_option maxHeartbeats 4000000 in
set_option maxRecDepth 100000 in
theorem constants_calls (w : World) : Calls Try.prog 114 #[] w fun e w' => e = .returned (.agg (constK.map (Value.int .u32)).toArray) ∧ Below w.heap.size w w' := by
  have hs := blk_size64 constK_len
  have hone := blk_one constK
  have hz := blk_zero64 constK_len
  have hc : (constK.map (Value.int .u32)).toArray = #[.int .u32 1116352408, .int .u32 1899447441, .int .u32 3049323471, .int .u32 3921009573, .int .u32 961987163, .int .u32 1508970993, .int .u32 2453635748, .int .u32 2870763221, .int .u32 3624381080, .int .u32 310598401, .int .u32 607225278, .int .u32 1426881987, .int .u32 1925078388, .int .u32 2162078206, .int .u32 2614888103, .int .u32 3248222580, .int .u32 3835390401, .int .u32 4022224774, .int .u32 264347078, .int .u32 604807628, .int .u32 770255983, .int .u32 1249150122, .int .u32 1555081692, .int .u32 1996064986, .int .u32 2554220882, .int .u32 2821834349, .int .u32 2952996808, .int .u32 3210313671, .int .u32 3336571891, .int .u32 3584528711, .int .u32 113926993, .int .u32 338241895, .int .u32 666307205, .int .u32 773529912, .int .u32 1294757372, .int .u32 1396182291, .int .u32 1695183700, .int .u32 1986661051, .int .u32 2177026350, .int .u32 2456956037, .int .u32 2730485921, .int .u32 2820302411, .int .u32 3259730800, .int .u32 3345764771, .int .u32 3516065817, .int .u32 3600352804, .int .u32 4094571909, .int .u32 275423344, .int .u32 430227734, .int .u32 506948616, .int .u32 659060556, .int .u32 883997877, .int .u32 958139571, .int .u32 1322822218, .int .u32 1537002063, .int .u32 1747873779, .int .u32 1955562222, .int .u32 2024104815, .int .u32 2227730452, .int .u32 2361852424, .int .u32 2428436474, .int .u32 2756734187, .int .u32 3204031479, .int .u32 3329325298] := rfl
  have hb := Blk.new w w.heap.size 144 (List.replicate 64 0) _ rfl rfl
  go_enter Try.func114, Try.ntmps114
  go_wp2_with (refine wpList_store_row rfl 144 (.tmp 0) (.tmp 1) rfl w.heap.size (constK.map (Value.int .u32)).toArray rfl ?hy 144 _ hb.out hs hz hone ?_; (case hy => rw [hc]; rfl))
  refine bodyPost_ret (results_cell_row rfl _ _ w.heap.size 144 _ (0, 0) _ rfl (hb.row constK).out Try.underlying144 rfl hs) rfl ?_
  exact ⟨rfl, below_row (below_alloc (Below.refl _ _) _) (Nat.le_refl _) _⟩
def startS : List Int := [1779033703, 3144134277, 1013904242, 2773480762, 1359893119, 2600822924, 528734635, 1541459225]
theorem start_calls (w : World) : Calls Try.prog 34 #[] w fun e w' => e = .returned (.agg (startS.map (Value.int .u32)).toArray) ∧ Below w.heap.size w w' := by
  have hs := blk_size8 (x := startS) rfl
  have hone := blk_one startS
  have hz := blk_same (x := List.replicate 8 0) (y := startS) rfl
  have hb := Blk.new w w.heap.size 28 (List.replicate 8 0) _ rfl rfl
  go_enter Try.func34, Try.ntmps34
  go_wp2_with (refine wpList_store_row rfl 28 (.tmp 0) (.tmp 1) rfl w.heap.size (startS.map (Value.int .u32)).toArray rfl rfl 28 _ hb.out hs hz hone ?_)
  refine bodyPost_ret (results_cell_row rfl _ _ w.heap.size 28 _ (0, 0) _ rfl (hb.row startS).out Try.underlying28 rfl hs) rfl ?_
  exact ⟨rfl, below_row (below_alloc (Below.refl _ _) _) (Nat.le_refl _) _⟩
end Go.Proofs.Ytelcaepenfjloaa.Print
