/- sha.mix: a block mixed into a state. -/
-- ROOT mosaic/sha.mix
import Derived.Test.YtelcaepenfjloaaPrK
import Derived.Test.YtelcaepenfjloaaMaSha
import Derived.Test.YtelcaepenfjloaaPr115
import Derived.StillTailTactics
import Derived.Deep.QuietTactic
import Derived.BigQuiet
import Derived.IntWalk
namespace Go.Proofs.Ytelcaepenfjloaa.Print
open Go.RowKit Go.Proofs.YtelcaepenfjloaaW.PrintWords Go.Proofs.YtelcaepenfjloaaW.PrintLast Go.Proofs.YtelcaepenfjloaaW.PrintMore
set_option linter.unusedVariables false
set_option linter.unusedSimpArgs false

/-- One round. -/
def s1N (e : Int) : Int := Go.bits .xor .u32 (Go.bits .xor .u32 (rotrN e 6) (rotrN e 11)) (rotrN e 25)
def s0N (a : Int) : Int := Go.bits .xor .u32 (Go.bits .xor .u32 (rotrN a 2) (rotrN a 13)) (rotrN a 22)
def chN (e f g : Int) : Int := Go.bits .xor .u32 (Go.bits .and .u32 e f) (Go.bits .and .u32 (Go.bits .xor .u32 IntKind.u32.max e) g)
def majN (a b c : Int) : Int := Go.bits .xor .u32 (Go.bits .xor .u32 (Go.bits .and .u32 a b) (Go.bits .and .u32 a c)) (Go.bits .and .u32 b c)
def mixStep (k w : List Int) : List Int → Nat → List Int
  | [a, b, c, d, e, f, g, h], t => [(h + s1N e + chN e f g + k.getD t 0 + w.getD t 0 + (s0N a + majN a b c)) % 4294967296, a, b, c, (d + (h + s1N e + chN e f g + k.getD t 0 + w.getD t 0)) % 4294967296, e, f, g]
  | s, _ => s
def mixL (k w : List Int) : Nat → Nat → List Int → List Int
  | 0, _, s => s
  | n + 1, t, s => mixL k w n (t + 1) (mixStep k w s t)
/-- The state is added, word by word. -/
def mixAdd (st : List Int) : Nat → Nat → List Int → List Int
  | 0, _, s => s
  | n + 1, i, s => mixAdd st n (i + 1) (s.set i ((s.getD i 0 + st.getD i 0) % 4294967296))
def mixB (st l : List Int) : List Int := mixAdd st 8 0 (mixL constK (sched l) 64 0 st)

theorem schedL_len (l : List Int) : ∀ (k t : Nat) (x : List Int), (schedL l k t x).length = x.length
  | 0, _, _ => rfl
  | k + 1, t, x => by rw [schedL, schedL_len l k, List.length_set]
theorem sched_len (l : List Int) : (sched l).length = 64 := by rw [sched, schedL_len, List.length_replicate]

theorem gen_world {G : World → Prop} {w : World} (p : World → Prop) (h : p w) (k : ∀ W, p W → G W) : G w := k w h
theorem Blk.rowfar {w : World} {g t : Nat} {x : List Int} (h : Blk w g t x) {g' : Nat} (hg : g ≠ g') (cs : Array Value) : Blk (w.setRow g' cs) g t x := ⟨by simp [World.setRow, Array.getElem?_modify, h.out, Ne.symm hg]⟩
theorem list8 {α : Type} (l : List α) (h : l.length = 8) : ∃ a b c d e f g i, l = [a, b, c, d, e, f, g, i] := by
  match l, h with
  | [a, b, c, d, e, f, g, i], _ => exact ⟨a, b, c, d, e, f, g, i, rfl⟩
/-- What lies in memory while a block is mixed: the state that came, the result. -/
structure MixJ (w W : World) (s : List Int) : Prop where
  bel : Below w.heap.size w W
  g2 : Blk W w.heap.size 28 s
  g4 : Blk W (w.heap.size + 1) 28 (List.replicate 8 0)
  lt : w.heap.size + 2 ≤ W.heap.size
theorem MixJ.below {w W W' : World} {s : List Int} (h : MixJ w W s) (hb : Below W.heap.size W W') : MixJ w W' s :=
  ⟨below_then h.bel h.bel.size hb, h.g2.below hb, h.g4.below hb, Nat.le_trans h.lt hb.size⟩
theorem MixJ.row {w W : World} {s : List Int} (h : MixJ w W s) {g : Nat} (hg : w.heap.size + 2 ≤ g) (cs : Array Value) : MixJ w (W.setRow g cs) s :=
  ⟨below_row h.bel (by omega) cs, h.g2.rowfar (by omega) cs, h.g4.rowfar (by omega) cs, by simpa [World.setRow] using h.lt⟩
theorem MixJ.cell {w W : World} {s : List Int} (h : MixJ w W s) {g : Nat} (hg : w.heap.size + 2 ≤ g) (i : Nat) (u : Value) : MixJ w (W.setCell ⟨g, i, none⟩ u) s :=
  ⟨h.bel.setCell (by show w.heap.size ≤ g; omega) u, h.g2.far (by show w.heap.size ≠ g; omega) u, h.g4.far (by show w.heap.size + 1 ≠ g; omega) u, by simpa [World.setCell] using h.lt⟩
theorem MixJ.alloc {w W : World} {s : List Int} (h : MixJ w W s) (o : Obj) : MixJ w (W.alloc o) s := h.below (below_alloc (Below.refl _ _) o)
/-- .. and the words and the constants. -/
structure MixI (w W : World) (g5 : Nat) (s l k : List Int) : Prop where
  j : MixJ w W s
  b5 : Blk W g5 144 l
  b6 : Blk W (g5 + 1) 144 k
  ge : w.heap.size + 2 ≤ g5
  lt : g5 + 2 ≤ W.heap.size
theorem MixI.below {w W W' : World} {g5 : Nat} {s l k : List Int} (h : MixI w W g5 s l k) (hb : Below W.heap.size W W') : MixI w W' g5 s l k :=
  ⟨h.j.below hb, h.b5.below hb, h.b6.below hb, h.ge, Nat.le_trans h.lt hb.size⟩
theorem MixI.drew {w W : World} {g5 : Nat} {s l k : List Int} (h : MixI w W g5 s l k) (n : Nat) : MixI w (W.drewN n) g5 s l k := h.below (Drawn0.below ⟨n, rfl⟩)
theorem MixI.alloc {w W : World} {g5 : Nat} {s l k : List Int} (h : MixI w W g5 s l k) (o : Obj) : MixI w (W.alloc o) g5 s l k := h.below (below_alloc (Below.refl _ _) o)
theorem MixI.row {w W : World} {g5 : Nat} {s l k : List Int} (h : MixI w W g5 s l k) {g : Nat} (hg : g5 + 2 ≤ g) (cs : Array Value) : MixI w (W.setRow g cs) g5 s l k :=
  ⟨h.j.row (by have := h.ge; omega) cs, h.b5.rowfar (by omega) cs, h.b6.rowfar (by omega) cs, h.ge, by simpa [World.setRow] using h.lt⟩
theorem MixI.cell {w W : World} {g5 : Nat} {s l k : List Int} (h : MixI w W g5 s l k) {g : Nat} (hg : g5 + 2 ≤ g) (i : Nat) (u : Value) : MixI w (W.setCell ⟨g, i, none⟩ u) g5 s l k :=
  ⟨h.j.cell (by have := h.ge; omega) i u, h.b5.far (by show g5 ≠ g; omega) u, h.b6.far (by show g5 + 1 ≠ g; omega) u, h.ge, by simpa [World.setCell] using h.lt⟩
theorem MixI.new {w W : World} {s l k : List Int} (h : MixJ w W s) (o o' : Obj) (ho : o = .cells ((List.replicate 64 (0 : Int)).map (Value.int .u32)).toArray 144) (ho' : o' = o) :
    MixI w ((((W.alloc o).alloc o').setRow W.heap.size (l.map (Value.int .u32)).toArray).setRow (W.heap.size + 1) (k.map (Value.int .u32)).toArray) W.heap.size s l k := by
  subst ho'
  subst ho
  have b5 := ((Blk.new W W.heap.size 144 (List.replicate 64 0) _ rfl rfl).alloc (.cells ((List.replicate 64 (0 : Int)).map (Value.int .u32)).toArray 144)).row l
  have b6 := (Blk.new (W.alloc (.cells ((List.replicate 64 (0 : Int)).map (Value.int .u32)).toArray 144)) (W.heap.size + 1) 144 (List.replicate 64 0) _ (by simp) rfl).rowfar (g' := W.heap.size) (by omega) (l.map (Value.int .u32)).toArray
  exact ⟨(((h.alloc _).alloc _).row h.lt _).row (by have := h.lt; omega) _, b5.rowfar (by omega) _, b6.row k, h.lt, by simp [World.setRow]⟩

set_option maxHeartbeats 400000 in
set_option maxRecDepth 100000 in
theorem mix_calls (s : List Int) (A : Option Addr) (c : Nat) (l : List Int) (w : World) (h8 : s.length = 8) (hr : Kd.C (Kd.int .u8) w A l.length l) (hc : l.length ≤ c) (h64 : 64 ≤ l.length) (hl : l.length ≤ 9223372036854775807) :
    Calls Try.prog 83 #[.agg (s.map (Value.int .u32)).toArray, .slice A l.length c] w fun e w' => e = .returned (.agg ((mixB s l).map (Value.int .u32)).toArray) ∧ Below w.heap.size w w' := by
  have HR := Aside0.mk hr
  have HC := Aside0.mk hc
  have HL := Aside0.mk h64
  have HM := Aside0.mk hl
  have HS := Aside0.mk h8
  clear hr hc h64 hl h8
  have hm : mixB s l = mixAdd s 8 0 (mixL constK (sched l) 64 0 s) := rfl
  have hsc := fun (W : World) (h : Kd.C (Kd.int .u8) W A l.length l) => schedule_calls A c l W h HC.out HL.out HM.out
  have hco := constants_calls
  have hs5 := blk_size64 (sched_len l)
  have ho5 := blk_one (sched l)
  have hz5 := blk_zero64 (sched_len l)
  have hs6 := blk_size64 constK_len
  have ho6 := blk_one constK
  have hz6 := blk_zero64 constK_len
  have hs8 := blk_size8 HS.out
  have ho8 := blk_one s
  have hz8 : ((List.replicate 8 (0 : Int)).map (Value.int .u32)).toArray.size = (s.map (Value.int .u32)).toArray.size := blk_same (by simp [HS.out])
  have hlk := constK_len
  have hlw := sched_len l
  generalize constK = kk at hm hco hs6 ho6 hz6 hlk
  generalize sched l = ww at hm hsc hs5 ho5 hz5 hlw
  generalize mixB s l = res at hm ⊢
  have HRES := Aside0.mk hm
  have HSC := Aside0.mk hsc
  have HCO := Aside0.mk hco
  clear hm hsc hco
  have hj : MixJ w ((w.alloc (.cells (s.map (Value.int .u32)).toArray 28)).alloc (.cells #[.int .u32 0, .int .u32 0, .int .u32 0, .int .u32 0, .int .u32 0, .int .u32 0, .int .u32 0, .int .u32 0] 28)) s := ⟨below_alloc (below_alloc (Below.refl _ _) _) _, Blk.alloc (Blk.new _ _ _ _ _ rfl rfl) _, Blk.new _ _ _ _ _ (by simp) rfl, by simp⟩
  have HJ := Aside0.mk hj
  have HR2 := Aside0.mk (Kd.C_below HR.out hj.bel)
  clear hj
  go_enter Try.func83, Try.ntmps83
  go_wp2_with (first
    | (go_at_call 113; refine (HSC.out _ HR2.out).mono ?_; rintro e w1 ⟨rfl, hb1⟩)
    | (go_at_call 114; refine (HCO.out _).mono ?_; rintro e w2 ⟨rfl, hb2⟩)
    | (refine wpList_store_row rfl 144 (.tmp 5) (.tmp 17) rfl w2.heap.size (ww.map (Value.int .u32)).toArray rfl rfl 144 _ ?hg5 hs5 hz5 ho5 ?_; (case hg5 => exact (Blk.alloc (Blk.new w2 _ _ (List.replicate 64 0) _ rfl rfl) _).out))
    | (refine wpList_store_row rfl 144 (.tmp 6) (.tmp 18) rfl (w2.heap.size + 1) (kk.map (Value.int .u32)).toArray rfl rfl 144 _ ?hg6 hs6 hz6 ho6 ?_; (case hg6 => exact (Blk.rowfar (Blk.new (w2.alloc _) _ _ (List.replicate 64 0) _ (by simp) rfl) (by omega) _).out); refine gen_world (fun W => MixI w W w2.heap.size s ww kk) (MixI.new ((HJ.out.below hb1).below hb2) _ _ rfl rfl) ?_; clear HJ hb1 hb2; intro W3 hm3; have HM3 := Aside0.mk hm3; clear hm3)
    | (refine wpList_load_row rfl 28 (.tmp 2) rfl w.heap.size rfl 28 _ (0, 0) _ HM3.out.j.g2.out Try.underlying28 rfl hs8 ?_)
    | (refine wpList_store_row rfl 28 (.tmp 7) (.tmp 19) rfl W3.heap.size (s.map (Value.int .u32)).toArray rfl rfl 28 _ ?hg7 hs8 hz8 ho8 ?_; (case hg7 => exact (Blk.new W3 _ _ (List.replicate 8 0) _ rfl rfl).out); refine gen_world (fun W => MixI w W w2.heap.size s ww kk ∧ Blk W W3.heap.size 28 s) ⟨(HM3.out.alloc _).row HM3.out.lt _, (Blk.new _ _ _ (List.replicate 8 0) _ rfl rfl).row s⟩ ?_; have hlt7 := HM3.out.lt; have hge7 := HM3.out.ge; clear HM3; rintro W4 ⟨hm4, hb7⟩; have HM4 := Aside0.mk hm4; have HB7 := Aside0.mk hb7; clear hm4 hb7))
  go_loopg [8, 9, 10, 11, 12, 13, 14, 20] 64 (fun gg _ _ _ _ _ _ _ s20 wr => ∃ (t : Nat) (x0 x1 x2 x3 x4 x5 x6 x7 : Int), t + gg = 64 ∧ s20 = .int .i64 (t : Int) ∧ Aside0 (res = mixAdd s 8 0 (mixL kk ww gg t [x0, x1, x2, x3, x4, x5, x6, x7])) ∧ Aside0 (Blk wr W3.heap.size 28 [x0, x1, x2, x3, x4, x5, x6, x7]) ∧ Aside0 (MixI w wr w2.heap.size s ww kk))
  case atStart =>
    obtain ⟨x0, x1, x2, x3, x4, x5, x6, x7, rfl⟩ := list8 s HS.out
    exact ⟨0, x0, x1, x2, x3, x4, x5, x6, x7, rfl, rfl, HRES, HB7, HM4⟩
  case round =>
    clear HRES HB7 HM4
    obtain ⟨t, x0, x1, x2, x3, x4, x5, x6, x7, ht, rfl, HA, HB7, HM4⟩ := hrel
    by_cases hlt : t < 64
    · obtain ⟨gg, rfl⟩ : ∃ m, gk = m + 1 := ⟨gk - 1, by omega⟩
      have hltz : (t : Int) < 64 := by omega
      have p0 : 0 ≤ (t : Int) := by omega
      have c0 : wr.cell? ⟨W3.heap.size, 0, none⟩ = some (.int .u32 x0) := HB7.out.at 0 (by simp)
      have c1 : wr.cell? ⟨W3.heap.size, 1, none⟩ = some (.int .u32 x1) := HB7.out.at 1 (by simp)
      have c2 : wr.cell? ⟨W3.heap.size, 2, none⟩ = some (.int .u32 x2) := HB7.out.at 2 (by simp)
      have c3 : wr.cell? ⟨W3.heap.size, 3, none⟩ = some (.int .u32 x3) := HB7.out.at 3 (by simp)
      have c4 : wr.cell? ⟨W3.heap.size, 4, none⟩ = some (.int .u32 x4) := HB7.out.at 4 (by simp)
      have c5 : wr.cell? ⟨W3.heap.size, 5, none⟩ = some (.int .u32 x5) := HB7.out.at 5 (by simp)
      have c6 : wr.cell? ⟨W3.heap.size, 6, none⟩ = some (.int .u32 x6) := HB7.out.at 6 (by simp)
      have c7 : wr.cell? ⟨W3.heap.size, 7, none⟩ = some (.int .u32 x7) := HB7.out.at 7 (by simp)
      have ck := HM4.out.b6.at t (by omega)
      have cw := HM4.out.b5.at t (by omega)
      generalize hkt : kk.getD t 0 = kt at ck
      generalize hwt : ww.getD t 0 = wt at cw
      have R6 := Aside0.mk (rotr_6 x4)
      have R11 := Aside0.mk (rotr_11 x4)
      have R25 := Aside0.mk (rotr_25 x4)
      have R2 := Aside0.mk (rotr_2 x0)
      have R13 := Aside0.mk (rotr_13 x0)
      have R22 := Aside0.mk (rotr_22 x0)
      generalize hr6 : rotrN x4 6 = r6 at R6
      generalize hr11 : rotrN x4 11 = r11 at R11
      generalize hr25 : rotrN x4 25 = r25 at R25
      generalize hr2 : rotrN x0 2 = r2 at R2
      generalize hr13 : rotrN x0 13 = r13 at R13
      generalize hr22 : rotrN x0 22 = r22 at R22
      have HE := Aside0.mk (And.intro hkt (And.intro hwt (And.intro hr6 (And.intro hr11 (And.intro hr25 (And.intro hr2 (And.intro hr13 hr22)))))))
      clear hkt hwt hr6 hr11 hr25 hr2 hr13 hr22
      go_wp2
      go_quiet (fail)
      go_wp2
      go_quiet (first | (go_at_call 115; (with_reducible refine (sha_rotr.calls _ _ _ _ R6.out).mono ?_); rintro e w' ⟨rfl, ⟨nd, rfl⟩⟩; (try first | exact ⟨rfl, _, World.drewN_drewN _ _ _⟩ | exact ⟨rfl, _, Eq.trans (World.drewN_drewN _ _ _) (congrArg (World.drewN _) (Nat.add_assoc _ _ _))⟩)) | (go_at_call 115; (with_reducible refine (sha_rotr.calls _ _ _ _ R11.out).mono ?_); rintro e w' ⟨rfl, ⟨nd, rfl⟩⟩; (try first | exact ⟨rfl, _, World.drewN_drewN _ _ _⟩ | exact ⟨rfl, _, Eq.trans (World.drewN_drewN _ _ _) (congrArg (World.drewN _) (Nat.add_assoc _ _ _))⟩)) | (go_at_call 115; (with_reducible refine (sha_rotr.calls _ _ _ _ R25.out).mono ?_); rintro e w' ⟨rfl, ⟨nd, rfl⟩⟩; (try first | exact ⟨rfl, _, World.drewN_drewN _ _ _⟩ | exact ⟨rfl, _, Eq.trans (World.drewN_drewN _ _ _) (congrArg (World.drewN _) (Nat.add_assoc _ _ _))⟩)))
      go_wp2_with (first | (go_at_call 115; (with_reducible refine (sha_rotr.calls _ _ _ _ R2.out).mono ?_); rintro e w' ⟨rfl, ⟨⟨ndR2, rfl⟩⟩⟩) | (go_at_call 115; (with_reducible refine (sha_rotr.calls _ _ _ _ R13.out).mono ?_); rintro e w' ⟨rfl, ⟨⟨ndR13, rfl⟩⟩⟩) | (go_at_call 115; (with_reducible refine (sha_rotr.calls _ _ _ _ R22.out).mono ?_); rintro e w' ⟨rfl, ⟨⟨ndR22, rfl⟩⟩⟩) | (refine wpList_store_row rfl 28 (.tmp 7) (.tmp 100) rfl W3.heap.size (List.map (Value.int .u32) [_, x0, x1, x2, _, x4, x5, x6]).toArray rfl rfl 28 _ (HB7.out.drew _).out ?hs ?hz ?ho ?_; (case hs => exact blk_size8 rfl); (case hz => exact blk_same rfl); (case ho => exact blk_one _)))
      go_roundg gg
      case measure => omega
      case rel =>
        refine ⟨t + 1, _, x0, x1, x2, _, x4, x5, x6, by omega, by go_num, ?_, ⟨(HB7.out.drew _).row [_, x0, x1, x2, _, x4, x5, x6]⟩, ⟨(HM4.out.drew _).row hlt7 _⟩⟩
        obtain ⟨rfl, rfl, rfl, rfl, rfl, rfl, rfl, rfl⟩ := HE.out
        exact ⟨HA.out⟩
    · have hltz : ¬ (t : Int) < 64 := by omega
      have h0 : gk = 0 := by omega
      subst h0
      go_wp2
      go_loopg [15, 102] 8 (fun gg _ s102 wr => ∃ (i : Nat) (x : List Int), i + gg = 8 ∧ s102 = .int .i64 (i : Int) ∧ Aside0 (x.length = 8) ∧ Aside0 (res = mixAdd s gg i x) ∧ Aside0 (Blk wr W3.heap.size 28 x) ∧ Aside0 (MixI w wr w2.heap.size s ww kk))
      case atStart => exact ⟨0, _, rfl, rfl, ⟨rfl⟩, HA, HB7, HM4⟩
      case round =>
        clear HA HB7 HM4 ht hlt hltz
        obtain ⟨i, x, hi, rfl, HX, HA, HB7, HM4⟩ := hrel
        by_cases hlt : i < 8
        · obtain ⟨gg, rfl⟩ : ∃ m, gk = m + 1 := ⟨gk - 1, by omega⟩
          have hltz : (i : Int) < 8 := by omega
          have p0 : 0 ≤ (i : Int) := by omega
          have q1 : W3.heap.size ≠ w.heap.size := by omega
          go_wp2
          refine wp_region_still_tail 8 (by kernel_rfl) (by kernel_rfl) ?_
          change wpStill _ _ wr.drew (fun a' => wpList _ _ _ _ a' wr.drew) _ _
          have hf : wr.drew.frozen? ⟨W3.heap.size, i, none⟩ = false := HB7.out.frozen i
          have l1 : wr.drew.cell? ⟨W3.heap.size, i, none⟩ = _ := HB7.out.at i (by have := HX.out; omega)
          have l2 : wr.drew.cell? ⟨w.heap.size, i, none⟩ = _ := HM4.out.j.g2.at i (by have := HS.out; omega)
          have B6 := Aside0.mk (HB7.out.drew 1)
          have M6 := Aside0.mk (HM4.out.drew 1)
          have hstep : mixAdd s (gg + 1) i x = mixAdd s gg (i + 1) (x.set i ((x.getD i 0 + s.getD i 0) % 4294967296)) := rfl
          generalize x.getD i 0 = xi at l1 hstep
          generalize s.getD i 0 = si at l2 hstep
          have HST := Aside0.mk hstep
          clear hstep HB7 HM4
          generalize hw6 : wr.drew = w6 at hf l1 l2 ⊢
          simp only [List.take_succ_cons, List.take_zero, List.drop_succ_cons, List.drop_zero]
          repeat still_step
          refine wpStill_nil ?_
          go_wp2
          go_roundg gg
          case measure => omega
          case rel => exact ⟨i + 1, x.set i ((xi + si) % 4294967296), by omega, by go_num, ⟨by rw [List.length_set]; exact HX.out⟩, ⟨by rw [HA.out, HST.out]⟩, ⟨hw6 ▸ B6.out.set i _⟩, ⟨hw6 ▸ M6.out.cell hlt7 _ _⟩⟩
        · have hltz : ¬ (i : Int) < 8 := by omega
          have h0 : gk = 0 := by omega
          subst h0
          have hsx := blk_size8 HX.out
          have hox := blk_one x
          have hzx : ((List.replicate 8 (0 : Int)).map (Value.int .u32)).toArray.size = (x.map (Value.int .u32)).toArray.size := blk_same (by simp [HX.out])
          have hres : res = x := HA.out
          subst hres
          go_wp2_with (first | (refine wpList_load_row rfl 28 (.tmp 7) rfl W3.heap.size rfl 28 _ (0, 0) _ HB7.out.out Try.underlying28 rfl hsx ?_) | (refine wpList_store_row rfl 28 (.tmp 4) (.tmp 114) rfl (w.heap.size + 1) _ rfl rfl 28 _ HM4.out.j.g4.out hsx hzx hox ?_))
          refine bodyPost_ret (results_cell_row rfl _ _ (w.heap.size + 1) 28 _ (0, 0) _ rfl (HM4.out.j.g4.row _).out Try.underlying28 rfl hsx) rfl ?_
          exact ⟨rfl, below_row HM4.out.j.bel (by omega) _⟩
end Go.Proofs.Ytelcaepenfjloaa.Print
