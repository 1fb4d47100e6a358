/- The padding of any number of bytes is the document's, and brings them to a multiple of 64, by 9 to 72 bytes; of a number that may not be it is empty. -/
import Derived.Test.YtelcaepenfjloaaStmShaPads
import Derived.Test.YtelcaepenfjloaaPureSha
namespace Go.Proofs.Ytelcaepenfjloaa.Pure
open Go.RowKit Go.Proofs.Ytelcaepenfjloaa.Print Go.Proofs.YtelcaepenfjloaaW.PrintWords Go.Proofs.YtelcaepenfjloaaW.PrintLast
set_option linter.unusedVariables false

theorem pad_ev (n : Int) (h0 : 0 ≤ n) (h1 : n ≤ 65536) : Ev (fun k => sha_Pad.f k n) (padB n) := by
  refine ⟨11, fun k hk => ?_⟩
  obtain ⟨k, rfl⟩ : ∃ m, k = m + 11 := ⟨k - 11, by omega⟩
  exact pad_f k n h0 h1
theorem ShaPads : mosaiclaw01_ShaPads.Pure := by
  intro n hn
  refine Ev.rounds ?_
  unfold mosaiclaw01_ShaPads.f
  by_cases h0 : n < 0
  · have e : Ev (fun k => sha_Pad.f k n) (⟨#[]⟩ : ByteArray) := by
      unfold sha_Pad.f
      refine Ev.pos h0 (Ev.succ ?_)
      simp only [sha_Pad.j0]
      exact Ev.pos trivial (Ev.some_ rfl)
    refine Ev.bind e (Ev.pos h0 (Ev.succ ?_))
    simp only [mosaiclaw01_ShaPads.j0]
    exact Ev.pos trivial (Ev.call awake01 (Ev.pos rfl (Ev.some_ (by decide +kernel))))
  by_cases h1 : n > 65536
  · have e : Ev (fun k => sha_Pad.f k n) (⟨#[]⟩ : ByteArray) := by
      unfold sha_Pad.f
      refine Ev.neg h0 ?_
      rw [decide_eq_true h1]
      refine Ev.succ ?_
      simp only [sha_Pad.j0]
      exact Ev.pos trivial (Ev.some_ rfl)
    refine Ev.bind e (Ev.neg h0 ?_)
    rw [decide_eq_true h1]
    refine Ev.succ ?_
    simp only [mosaiclaw01_ShaPads.j0]
    exact Ev.pos trivial (Ev.call awake01 (Ev.pos rfl (Ev.some_ (by decide +kernel))))
  refine Ev.bind (pad_ev n (by omega) (by omega)) (Ev.neg h0 ?_)
  rw [decide_eq_false h1]
  refine Ev.succ ?_
  simp only [mosaiclaw01_ShaPads.j0]
  have hz := padB_size n (by omega)
  have e1 : wrap64 (n + ((padB n).size : Int)) = n + (padB n).size := by unfold wrap64; omega
  have e2 : Int.tmod (n + ((padB n).size : Int)) 64 = (n + (padB n).size) % 64 := Int.tmod_eq_emod_of_nonneg (by omega)
  rw [e1, e2]
  refine Ev.neg (by simp) (Ev.call awake01 (Ev.pos rfl (Ev.bind (refpad_ev n (by omega) (by omega)) (Ev.pos rfl (Ev.pos (by omega) (Ev.pos (by omega) (Ev.some_ ?_)))))))
  exact decide_eq_true (by omega)
end Go.Proofs.Ytelcaepenfjloaa.Pure
