/- store: a store in memory; New; keys. -/
import Derived.Test.YtcddajdjmlmpdaaPrK
import Derived.Test.YtcddajdjmlmpdaaMaMaps1
import Derived.DeepKeys4
import Derived.IntWalk
import Derived.BigQuiet
import Derived.Deep.QuietTactic
import Derived.Deep.RegionLaw
import Derived.Deep.RegionHeld3
import Derived.RegionTactic
import Derived.StillTailTactics
import Derived.Outline
import Derived.Laws.CopyOwn
namespace Go.Proofs.Ytcddajdjmlmpdaa.Print
open Go.RowKit Go.Proofs.YtcddajdjmlmpdaaW.PrintWords Go.Proofs.YtcddajdjmlmpdaaW.PrintLast Go.Proofs.YtcddajdjmlmpdaaW.PrintMore
open Go.ChangeMaps (setBlock)
open Go.Maps (Keyed)
set_option linter.unusedVariables false
set_option linter.unusedSimpArgs false

set_option maxRecDepth 100000 in
theorem laidOutS : laidOutB Try.prog = true := by kernel_rfl
theorem rowK : (105 : TypeId) < Try.prog.types.size := of_decide_eq_true (by kernel_rfl)
theorem wideK : (match Try.prog.underlying 105 with | some (.array _ _) | some (.struct _) => true | _ => false) = true := by rw [Try.underlying105]
set_option maxRecDepth 100000 in
theorem keyedK : Keyed Try.prog 105 := Keyed.of_law (deep_law_laid laidOutS (m := 4) (by omega) rowK (by kernel_rfl) wideK)
theorem keyTyK : Try.prog.keyType 105 = true := by kernel_rfl
theorem cellsK : Try.prog.cellsOf 105 = 4 := by kernel_rfl
theorem size5 : 5 ≤ Try.prog.types.size := of_decide_eq_true (by kernel_rfl)
theorem cellsH : Try.prog.cellsOf 29 = 3 := by kernel_rfl
theorem cellsI : Try.prog.cellsOf 3 = 1 := by kernel_rfl
theorem cellsS : Try.prog.cellsOf 9 = 1 := by kernel_rfl
set_option maxRecDepth 100000 in
theorem keyK (a b c : Int) (p : Int) (s : ByteArray) (hp : (Lit.int .i64 p).wf = true) (ha : (Lit.int .i64 a).wf = true) (hb : (Lit.int .i64 b).wf = true) (hs : s.size ≤ 1000000) : ∃ l, keyOf Try.prog 105 (.agg #[.int .i64 p, .int .i64 a, .int .i64 b, .string s]) = some l := by
  unfold keyOf
  rw [Try.underlying105]
  obtain ⟨d, hd⟩ : ∃ d, Try.prog.types.size = d + 4 := ⟨Try.prog.types.size - 4, by have := size5; omega⟩
  have hml : s.size ≤ maxLen := by unfold maxLen; omega
  have hf : (Value.agg #[.int .i64 p, .int .i64 a, .int .i64 b, .string s]).formed Try.prog 105 = true := by
    simp [Value.formed, Try.underlying105, cellsK]
  simp only [keyTyK, Bool.true_and, hf, if_true, hd]
  simp [Program.keyLits, Value.cells, Try.underlying105, Try.underlying29, Try.underlying3, Try.underlying9, cellsK, cellsH, cellsI, cellsS, hp, ha, hb, hml]
  rw [if_pos (by decide)]
  simp
end Go.Proofs.Ytcddajdjmlmpdaa.Print
