/- sha.Hash: New, Write, Sum, Len; sha.Sum. -/
-- ROOT mosaic/sha.Sum
import Derived.Test.YtelcaepenfjloaaPrK
import Derived.Test.YtelcaepenfjloaaMaShaMix
import Derived.StillTailTactics
import Derived.Deep.QuietTactic
import Derived.BigQuiet
import Derived.IntWalk
import Derived.Deep.RegionHeld3
import Derived.Deep.RegionLaw
namespace Go.Proofs.Ytelcaepenfjloaa.Print
open Go.RowKit Go.Proofs.YtelcaepenfjloaaW.PrintWords Go.Proofs.YtelcaepenfjloaaW.PrintLast Go.Proofs.YtelcaepenfjloaaW.PrintMore
theorem min2_min (k k' : IntKind) (x y : Int) : Builtin.min2 (.int k x) (.int k' y) = pure (.int k (min x y)) := by
  rw [min2_int, show (if y < x then y else x) = min x y by omega]
attribute [local go_sem] min2_min min_two
set_option linter.unusedVariables false
set_option linter.unusedSimpArgs false

section
variable {P : Program} {ops : Array Oper} {o : Oper} {a : Act} {Q : Exit → Act → World → Prop} {Kc : Act → World → Prop}
theorem step_append_str {w0 W : World} (base : Nat) (hw : Region.wanted o (yielded ops a.tmps) = true) (s x : Operand) (t u e : TypeId)
    (ho : o.op = .call { callee := .builtin .append, args := #[s, x], argTypes := #[t, u] })
    (ht : P.underlying t = some (.slice e)) (hu : P.underlying u = some .string) (hinfo : (P.info? e).map (fun i => (i.zero, i.size, i.bytes)) = some (some (.int .u8 0), 1, 1))
    (v : Value) (xs : List Int) (y : ByteArray) (hs : a.eval s = v) (hx : a.eval x = .string y)
    (HO : W.ownsRow base e 1 v xs.length (nums .u8 xs)) (HB : Below base w0 W) (hbase : base ≤ W.heap.size) (hl : xs.length + y.size ≤ 140737488355328)
    (h : ∀ v1 w1, w1.ownsRow base e 1 v1 (xs ++ bytesOf y).length (nums .u8 (xs ++ bytesOf y)) → Below base w0 w1 → W.grownBy w1 v.ownBlock → Kc (a.put o.dst v1) w1) :
    if Region.wanted o (yielded ops a.tmps) = true then Oper.wp P o a W Kc Q else Kc (a.put o.dst undef) W := by
  obtain ⟨i0, hi, hzz⟩ := Option.map_eq_some_iff.1 hinfo
  simp only [Prod.mk.injEq] at hzz
  obtain ⟨hz0, hz1, hz2⟩ := hzz
  rw [if_pos hw]
  obtain ⟨v1, w1, hr, hown, hg, _⟩ := Lib.run_append_own_string (P := P) W base t u o.type e i0 ht hu hi hz0 hz1 hz2 v xs.length (nums .u8 xs) HO y (by simp only [maxLen]; omega) hl hbase
  have hl2 : (xs ++ bytesOf y).length = xs.length + y.size := by rw [List.length_append, bytesOf_length]
  have hc : nums .u8 (xs ++ bytesOf y) = nums .u8 xs ++ Lib.strCells y := by
    rw [nums_append]
    congr 1
    simp [nums, bytesOf, Lib.strCells]
  unfold Oper.wp execOp
  simp only [ho, resolve, invoke, builtin, Sem.run_bind, Sem.run_pure, Result.andThen_ok, List.map_toArray, List.map_cons, List.map_nil, hs, hx, hr]
  exact h v1 w1 (by rw [hl2, hc]; exact hown) (HB.grown hg hbase (own_base HO)) hg
end
/-- Block g is a sum: its state, what is no whole block, how many bytes were written. -/
structure HashW (B : Nat) (W : World) (g : Nat) (st : List Int) (v : Value) (pt : List Int) (n : Int) : Prop where
  blk : W.heap[g]? = some (.cells (st.map (Value.int .u32) ++ [v, .int .i64 n]).toArray 116 (0, 0))
  len : st.length = 8
  own : Kd.R (Kd.int .u8) 5 W B (fun _ => True) v pt
  ge : B ≤ g
theorem HashW.part {B : Nat} {W : World} {g : Nat} {st : List Int} {v : Value} {pt : List Int} {n : Int} (h : HashW B W g st v pt n) : W.cell? ⟨g, 8, none⟩ = some v := by
  rw [blk_cell h.blk]
  simp [h.len]
theorem HashW.num {B : Nat} {W : World} {g : Nat} {st : List Int} {v : Value} {pt : List Int} {n : Int} (h : HashW B W g st v pt n) : W.cell? ⟨g, 9, none⟩ = some (.int .i64 n) := by
  rw [blk_cell h.blk]
  simp [h.len]
theorem HashW.ne {B : Nat} {W : World} {g : Nat} {st : List Int} {v : Value} {pt : List Int} {n : Int} (h : HashW B W g st v pt n) : some g ≠ v.ownBlock := Kd.R_ne h.own h.blk (by decide)
theorem HashW.setNum {B : Nat} {W : World} {g : Nat} {st : List Int} {v : Value} {pt : List Int} {n : Int} (h : HashW B W g st v pt n) (m : Int) : HashW B (W.setCell ⟨g, 9, none⟩ (.int .i64 m)) g st v pt m := by
  refine ⟨?_, h.len, Kd.R_set h.own h.blk (by decide) 9 _, h.ge⟩
  rw [blk_set h.blk]
  have := h.len
  obtain ⟨a, b, c, d, e, f, i, j, rfl⟩ := list8 st h.len
  rfl
/-- A row of bytes is put there. -/
theorem HashW.setPart {B : Nat} {W : World} {g : Nat} {st : List Int} {v0 : Value} {n : Int} (hb : W.heap[g]? = some (.cells (st.map (Value.int .u32) ++ [v0, .int .i64 n]).toArray 116 (0, 0))) (hl : st.length = 8) (hg : B ≤ g) (v1 : Value) (p1 : List Int) (h1 : Kd.R (Kd.int .u8) 5 W B (fun _ => True) v1 p1) : HashW B (W.setCell ⟨g, 8, none⟩ v1) g st v1 p1 n := by
  refine ⟨?_, hl, Kd.R_set h1 hb (by decide) 8 _, hg⟩
  rw [blk_set hb]
  obtain ⟨a, b, c, d, e, f, i, j, rfl⟩ := list8 st hl
  rfl

theorem mixStep_len (k w s : List Int) (t : Nat) (h : s.length = 8) : (mixStep k w s t).length = 8 := by
  obtain ⟨a, b, c, d, e, f, i, j, rfl⟩ := list8 s h
  rfl
theorem mixL_len (k w : List Int) : ∀ (n t : Nat) (s : List Int), s.length = 8 → (mixL k w n t s).length = 8
  | 0, _, _, h => h
  | n + 1, t, s, h => mixL_len k w n (t + 1) _ (mixStep_len k w s t h)
theorem mixAdd_len (st : List Int) : ∀ (n i : Nat) (s : List Int), (mixAdd st n i s).length = s.length
  | 0, _, _ => rfl
  | n + 1, i, s => by rw [mixAdd, mixAdd_len st n, List.length_set]
theorem mixB_len (st l : List Int) (h : st.length = 8) : (mixB st l).length = 8 := by rw [mixB, mixAdd_len]; exact mixL_len _ _ _ _ _ h
/-- The state's eight cells. -/
theorem HashW.cells {B : Nat} {W : World} {g : Nat} {x0 x1 x2 x3 x4 x5 x6 x7 : Int} {v : Value} {pt : List Int} {n : Int} (h : HashW B W g [x0, x1, x2, x3, x4, x5, x6, x7] v pt n) :
    W.cell? ⟨g, 0, none⟩ = some (.int .u32 x0) ∧ W.cell? ⟨g, 1, none⟩ = some (.int .u32 x1) ∧ W.cell? ⟨g, 2, none⟩ = some (.int .u32 x2) ∧ W.cell? ⟨g, 3, none⟩ = some (.int .u32 x3) ∧ W.cell? ⟨g, 4, none⟩ = some (.int .u32 x4) ∧ W.cell? ⟨g, 5, none⟩ = some (.int .u32 x5) ∧ W.cell? ⟨g, 6, none⟩ = some (.int .u32 x6) ∧ W.cell? ⟨g, 7, none⟩ = some (.int .u32 x7) := by
  refine ⟨?_, ?_, ?_, ?_, ?_, ?_, ?_, ?_⟩ <;> (rw [blk_cell h.blk]; rfl)
theorem HashW.below {B : Nat} {W W' : World} {g : Nat} {st : List Int} {v : Value} {pt : List Int} {n : Int} (h : HashW B W g st v pt n) (hb : Below W.heap.size W W') : HashW B W' g st v pt n :=
  ⟨blk_below h.blk hb, h.len, Kd.R_below h.own hb, h.ge⟩
theorem HashW.setOne {B : Nat} {W : World} {g : Nat} {st : List Int} {v : Value} {pt : List Int} {n : Int} (h : HashW B W g st v pt n) (i : Nat) (hi : i < 8) (y : Int) : HashW B (W.setCell ⟨g, i, none⟩ (.int .u32 y)) g (st.set i y) v pt n := by
  refine ⟨?_, by rw [List.length_set]; exact h.len, Kd.R_set h.own h.blk (by decide) i _, h.ge⟩
  rw [blk_set h.blk]
  have : i < st.length := by rw [h.len]; exact hi
  simp [List.map_set, List.set_append, this]
theorem HashW.drew {B : Nat} {W : World} {g : Nat} {st : List Int} {v : Value} {pt : List Int} {n : Int} (h : HashW B W g st v pt n) : HashW B W.drew g st v pt n := ⟨h.blk, h.len, Kd.R_drew h.own, h.ge⟩
/-- Another state is put there, cell by cell. -/
theorem HashW.setState {B : Nat} {W : World} {g : Nat} {st : List Int} {v : Value} {pt : List Int} {n : Int} (h : HashW B W g st v pt n) (y0 y1 y2 y3 y4 y5 y6 y7 : Int) :
    HashW B ((((((((W.setCell ⟨g, 0, none⟩ (.int .u32 y0)).setCell ⟨g, 1, none⟩ (.int .u32 y1)).setCell ⟨g, 2, none⟩ (.int .u32 y2)).setCell ⟨g, 3, none⟩ (.int .u32 y3)).setCell ⟨g, 4, none⟩ (.int .u32 y4)).setCell ⟨g, 5, none⟩ (.int .u32 y5)).setCell ⟨g, 6, none⟩ (.int .u32 y6)).setCell ⟨g, 7, none⟩ (.int .u32 y7)) g [y0, y1, y2, y3, y4, y5, y6, y7] v pt n := by
  have h7 := ((((((((h.setOne 0 (by omega) y0).setOne 1 (by omega) y1).setOne 2 (by omega) y2).setOne 3 (by omega) y3).setOne 4 (by omega) y4).setOne 5 (by omega) y5).setOne 6 (by omega) y6).setOne 7 (by omega) y7)
  obtain ⟨a, b, c, d, e, f, i, j, rfl⟩ := list8 st h.len
  exact h7

/-- What stands behind bytes that are written: the state, and what is no whole block. -/
def hashGo : Nat → List Int → List Int → ByteArray → List Int × List Int
  | 0, st, p, _ => (st, p)
  | k + 1, st, p, s =>
    if (p ++ bytesOf (s.extract 0 (min (64 - p.length) s.size))).length = 64 then hashGo k (mixB st (p ++ bytesOf (s.extract 0 (min (64 - p.length) s.size)))) [] (s.extract (min (64 - p.length) s.size) s.size)
    else (st, p ++ bytesOf (s.extract 0 (min (64 - p.length) s.size)))

theorem below_via {B : Nat} {w a b : World} (h : Below B w a) (hB : B ≤ w.heap.size) (k : Below a.drew.heap.size a.drew b) : Below B w b := h.drew.trans (k.mono (Nat.le_trans hB h.drew.size))
set_option maxHeartbeats 800000 in
set_option maxRecDepth 100000 in
theorem write_calls (B g : Nat) (st pt : List Int) (v : Value) (n : Int) (s : ByteArray) (w : World) (h : HashW B w g st v pt n) (hB : B ≤ w.heap.size) (hp : pt.length < 64) (h0 : 0 ≤ n) (hn : (s.size : Int) ≤ 65536 - n) :
    Calls Try.prog 37 #[.pointer (some ⟨g, 0, none⟩), .string s] w fun e w' => e = .returned (.int .i64 0) ∧ Below B w w' ∧ ∃ v', HashW B w' g (hashGo (s.size + 1) st pt s).1 v' (hashGo (s.size + 1) st pt s).2 (n + s.size) := by
  obtain ⟨res, hres⟩ : ∃ res, res = hashGo (s.size + 1) st pt s := ⟨_, rfl⟩
  rw [← hres]
  have HRES := Aside0.mk hres
  have HB := Aside0.mk hB
  have HP := Aside0.mk hp
  have H := Aside0.mk h
  have e1 : wrap64 (65536 - n) = 65536 - n := by unfold wrap64; omega
  have e2 : wrap64 (n + s.size) = n + s.size := by unfold wrap64; omega
  have c1 : ¬ 65536 - n < (s.size : Int) := by omega
  have k9 := h.num
  have f9 : w.frozen? ⟨g, 9, none⟩ = false := blk_frozen h.blk 9
  clear hres h hB hp
  go_enter Try.func37, Try.ntmps37
  go_wp2
  refine wp_scope_ghost 0 (fun kq a_ w' => ∃ (s' : ByteArray) (st' pt' : List Int) (v' : Value) (uu5 uu6 uu7 uu8 uu9 uu10 uu11 uu12 uu13 uu14 uu15 uu16 uu17 uu18 uu19 uu20 uu21 uu22 uu23 uu24 uu25 uu26 uu27 uu28 uu29 uu30 uu31 uu32 uu33 uu34 uu35 uu36 uu37 uu38 uu39 uu40 uu41 uu42 uu43 uu44 uu45 uu46 uu47 uu48 uu49 uu50 uu51 uu52 uu53 uu54 uu55 uu56 uu57 uu58 uu59 uu60 uu61 uu62 uu63 uu64 uu65 uu66 uu67 uu68 uu69 uu70 uu71 uu72 uu73 uu74 uu75 : Value), a_ = { tmps := #[.pointer (some ⟨g, 0, none⟩), .string s', undef, undef, .int .i64 0, uu5, uu6, uu7, uu8, uu9, uu10, uu11, uu12, uu13, uu14, uu15, uu16, uu17, uu18, uu19, uu20, uu21, uu22, uu23, uu24, uu25, uu26, uu27, uu28, uu29, uu30, uu31, uu32, uu33, uu34, uu35, uu36, uu37, uu38, uu39, uu40, uu41, uu42, uu43, uu44, uu45, uu46, uu47, uu48, uu49, uu50, uu51, uu52, uu53, uu54, uu55, uu56, uu57, uu58, uu59, uu60, uu61, uu62, uu63, uu64, uu65, uu66, uu67, uu68, uu69, uu70, uu71, uu72, uu73, uu74, uu75], defers := [] } ∧ Aside0 (HashW B w' g st' v' pt' (n + s.size)) ∧ Aside0 (res = hashGo kq st' pt' s') ∧ Aside0 (pt'.length < 64) ∧ s'.size < kq ∧ s'.size ≤ 65536 ∧ Aside0 (Below B w w')) rfl ?round ?first
  case first =>
    intro hpass
    go_wp2
    go_step3
    rename_i hk_
    refine hk_ _ _ (hpass (s.size + 1) _ _ ?_)
    exact ⟨s, st, pt, v, _, _, _, _, _, _, _, _, _, _, _, _, _, _, _, _, _, _, _, _, _, _, _, _, _, _, _, _, _, _, _, _, _, _, _, _, _, _, _, _, _, _, _, _, _, _, _, _, _, _, _, _, _, _, _, _, _, _, _, _, _, _, _, _, _, _, _, _, _, _, _, rfl, ⟨H.out.setNum _⟩, HRES, HP, by omega, by omega, ⟨(Below.refl _ _).setCell H.out.ge _⟩⟩
  case round =>
    intro gk a_ wr' hR_
    clear HRES H HP k9 f9 e1 e2 c1
    revert hR_
    simp only [forall_exists_index, and_imp]
    intro s' st' pt' v' u5 u6 u7 u8 u9 u10 u11 u12 u13 u14 u15 u16 u17 u18 u19 u20 u21 u22 u23 u24 u25 u26 u27 u28 u29 u30 u31 u32 u33 u34 u35 u36 u37 u38 u39 u40 u41 u42 u43 u44 u45 u46 u47 u48 u49 u50 u51 u52 u53 u54 u55 u56 u57 u58 u59 u60 u61 u62 u63 u64 u65 u66 u67 u68 u69 u70 u71 u72 u73 u74 u75 ha_ H HRES HP hgk hs' HBl
    subst ha_
    obtain ⟨kk, rfl⟩ : ∃ m, gk = m + 1 := ⟨gk - 1, by omega⟩
    obtain ⟨A, c, hv⟩ := Kd.R_slice H.out.own
    subst hv
    have k8 := H.out.part
    have hp' := HP.out
    have w1 : IntKind.i64.wrap (64 - (pt'.length : Int)) = 64 - pt'.length := IntWalk.i64_in _ (by omega)
    obtain ⟨m, hm⟩ : ∃ m, m = min (64 - pt'.length) s'.size := ⟨_, rfl⟩
    have m1 : min (64 - (pt'.length : Int)) (s'.size : Int) = (m : Int) := by omega
    have m2 : m ≤ s'.size := by omega
    have m3 : (m : Int) ≤ (s'.size : Int) := by omega
    have m4 : 0 ≤ (m : Int) := by omega
    have HMm := Aside0.mk hm
    clear hm
    go_wp2
    clear w1
    have HBd := HBl.out.drew
    have hsz : (s'.extract 0 m).size = m := by simp; omega
    have HOd := Kd.own_of_R (Kd.R_drew H.out.own)
    have hbd : B ≤ wr'.drew.heap.size := Nat.le_trans HB.out HBd.size
    have hld : pt'.length + (s'.extract 0 m).size ≤ 140737488355328 := by omega
    have hg8 : wr'.drew.heap[g]? = _ := H.out.blk
    have hkeep : ∀ w7 : World, wr'.drew.grownBy w7 (Value.slice A pt'.length c).ownBlock → w7.cell? ⟨g, 8, none⟩ = some (.slice A pt'.length c) ∧ w7.frozen? ⟨g, 8, none⟩ = false := fun w7 hg => by
      have := blk_grown hg8 hg H.out.ne
      refine ⟨?_, blk_frozen this 8⟩
      rw [blk_cell this]
      simp [H.out.len]
    have HKEEP := Aside0.mk hkeep
    have HG8 := Aside0.mk hg8
    clear hkeep hg8
    go_region_law ((refine step_append_str (w0 := w) B (by rfl) (.tmp 40) (.tmp 43) 47 9 5 rfl Try.underlying47 Try.underlying9 info5 (.slice A pt'.length c) pt' (s'.extract 0 m) rfl rfl HOd HBd hbd hld ?_; intro v1 w7 ho hb7 hg7; have hr7 : Kd.R (Kd.int .u8) 5 w7 B (fun _ => True) v1 (pt' ++ bytesOf (s'.extract 0 m)) := Kd.R_of_own ho (fun _ _ => trivial); obtain ⟨p1, hp1⟩ : ∃ p, p = pt' ++ bytesOf (s'.extract 0 m) := ⟨_, rfl⟩; rw [← hp1] at hr7; have HP1 := Aside0.mk hp1; clear ho hp1; obtain ⟨A7, c7, hv7⟩ := Kd.R_slice hr7; subst hv7; obtain ⟨k9, f9⟩ := HKEEP.out _ hg7))
    refine gen_world (fun W => HashW B W g st' (.slice A7 p1.length c7) p1 (n + s.size) ∧ Below B w W) ⟨HashW.setPart (blk_grown HG8.out hg7 H.out.ne) H.out.len H.out.ge _ _ hr7, hb7.setCell H.out.ge _⟩ ?_
    rintro w8 ⟨h8, hb8⟩
    have H8 := Aside0.mk h8
    have HB8 := Aside0.mk hb8
    have hpl : p1.length = pt'.length + m := by rw [HP1.out, List.length_append, bytesOf_length, hsz]
    have hst : res = if p1.length = 64 then hashGo kk (mixB st' p1) [] (s'.extract m s'.size) else (st', p1) := by
      rw [HRES.out, hashGo, ← HMm.out, ← HP1.out]
    have hs2 : (s'.extract m s'.size).size = s'.size - m := by simp
    clear hb8 hg7 hb7 hr7 k9 f9 HG8 HKEEP hld hbd HOd HBd H HBl HRES k8 HP1 hsz
    obtain ⟨s2, hs2'⟩ : ∃ s2, s2 = s'.extract m s'.size := ⟨_, rfl⟩
    rw [← hs2'] at hs2 hst
    have HS2 := Aside0.mk hs2'
    have HST := Aside0.mk hst
    have k8 := h8.part
    have n8 := h8.num
    clear hst h8 n8 hs2'
    have HPL := Aside0.mk hpl
    clear hpl
    by_cases hf1 : p1.length = 64
    · have hf2 : ((p1.length : Int) == 64) = true := by rw [hf1]; rfl
      have hr8 := Kd.R_reads' H8.out.own
      have h64 : 64 ≤ p1.length := Nat.le_of_eq hf1.symm
      have h63 : p1.length ≤ 9223372036854775807 := by rw [hf1]; decide
      have hmc := fun (W : World) (hR : Kd.C (Kd.int .u8) W A7 p1.length p1) => mix_calls st' A7 c7 p1 W H8.out.len hR hr8.2.1 h64 h63
      have hrd := hr8.2.2
      rw [hf1] at hrd
      have HRD := Aside0.mk hrd
      clear hrd
      have hl := mixB_len st' p1 H8.out.len
      generalize hmb : mixB st' p1 = yy at hmc hl
      have HY := Aside0.mk hmb
      clear hr8 h64 h63 hmb
      obtain ⟨y0, y1, y2, y3, y4, y5, y6, y7, rfl⟩ := list8 yy hl
      obtain ⟨x0, x1, x2, x3, x4, x5, x6, x7, hx⟩ := list8 st' H8.out.len
      subst hx
      have HMC : Aside0 (∀ (W : World), Kd.C (Kd.int .u8) W A7 64 p1 → Calls Try.prog 83 #[.agg #[.int .u32 x0, .int .u32 x1, .int .u32 x2, .int .u32 x3, .int .u32 x4, .int .u32 x5, .int .u32 x6, .int .u32 x7], .slice A7 64 c7] W fun e w' => e = .returned (.agg #[.int .u32 y0, .int .u32 y1, .int .u32 y2, .int .u32 y3, .int .u32 y4, .int .u32 y5, .int .u32 y6, .int .u32 y7]) ∧ Below W.heap.size W w') := ⟨by rw [hf1] at hmc; exact hmc⟩
      clear hmc hl
      obtain ⟨c0, c1, c2, c3, c4, c5, c6, c7'⟩ := H8.out.cells
      go_wp2
      go_region_with ((go_at_call 83; refine (HMC.out _ ?_).mono ?_; (repeat (first | exact HRD.out | (with_reducible refine Kd.C_drewN ?_ _) | (with_reducible refine Kd.C_drew ?_))); rintro e w9 ⟨rfl, hb9⟩; have h9 := Aside0.mk (H8.out.drew.below hb9); obtain ⟨d0, d1, d2, d3, d4, d5, d6, d7⟩ := h9.out.cells; have f0 := blk_frozen h9.out.blk 0; have f1 := blk_frozen h9.out.blk 1; have f2 := blk_frozen h9.out.blk 2; have f3 := blk_frozen h9.out.blk 3; have f4 := blk_frozen h9.out.blk 4; have f5 := blk_frozen h9.out.blk 5; have f6 := blk_frozen h9.out.blk 6; have f7 := blk_frozen h9.out.blk 7))
      all_goals
        refine gen_world (fun W => HashW B W g [y0, y1, y2, y3, y4, y5, y6, y7] (.slice A7 p1.length c7) p1 (n + s.size) ∧ Below B w W) ⟨h9.out.setState _ _ _ _ _ _ _ _, ?bel⟩ ?_
        case bel => exact ((((((((below_via HB8.out HB.out hb9).setCell H8.out.ge _).setCell H8.out.ge _).setCell H8.out.ge _).setCell H8.out.ge _).setCell H8.out.ge _).setCell H8.out.ge _).setCell H8.out.ge _).setCell H8.out.ge _
        rintro W4 ⟨h4, hb4⟩
        have H4 := Aside0.mk h4
        have HB4 := Aside0.mk hb4
        have e8 := h4.part
        have e9 := blk_frozen h4.blk 8
        rw [hf1] at e8
        clear h4 hb4 hb9 h9 d0 d1 d2 d3 d4 d5 d6 d7 f0 f1 f2 f3 f4 f5 f6 f7 c0 c1 c2 c3 c4 c5 c6 c7' k8
        have hc7 : 64 ≤ c7 := by have := (Kd.R_reads' H8.out.own).2.1; omega
        go_wp2
        have hsz : (s'.extract m s'.size).size = s'.size - m := by simp
        have hpl := HPL.out
        go_step3
        exact ⟨rfl, kk, by omega, s'.extract m s'.size, [y0, y1, y2, y3, y4, y5, y6, y7], [], .slice A7 0 c7, _, _, _, _, _, _, _, _, _, _, _, _, _, _, _, _, _, _, _, _, _, _, _, _, _, _, _, _, _, _, _, _, _, _, _, _, _, _, _, _, _, _, _, _, _, _, _, _, _, _, _, _, _, _, _, _, _, _, _, _, _, _, _, _, _, _, _, _, _, _, _, rfl, ⟨HashW.setPart H4.out.blk H4.out.len H4.out.ge _ _ (Kd.R_take (m := 0) H4.out.own (Nat.zero_le _))⟩, ⟨by rw [HST.out, if_pos hf1, HY.out, HS2.out]⟩, ⟨by decide⟩, by omega, by omega, ⟨HB4.out.setCell H8.out.ge _⟩⟩
    · have hf2 : ((p1.length : Int) == 64) = false := by
        rw [beq_eq_false_iff_ne]
        omega
      go_wp2
      (try simp only [Exit.jump])
      go_ret
      refine ⟨rfl, HB8.out, .slice A7 p1.length c7, ?_⟩
      rw [HST.out, if_neg hf1]
      exact H8.out
end Go.Proofs.Ytelcaepenfjloaa.Print
