/- The sum of any bytes is SHA-256's, as the document defines it, and has 32 bytes; up to 5,000 bytes. -/
import Derived.Test.YtelcaepenfjloaaStmShaSums
import Derived.Test.YtelcaepenfjloaaPureSha
namespace Go.Proofs.Ytelcaepenfjloaa.Pure
open Go.RowKit Go.Proofs.Ytelcaepenfjloaa.Print Go.Proofs.YtelcaepenfjloaaW.PrintWords Go.Proofs.YtelcaepenfjloaaW.PrintLast
set_option linter.unusedVariables false

theorem ShaSums : mosaiclaw01_ShaSums.Pure := by
  intro s hs
  refine Ev.rounds ?_
  unfold mosaiclaw01_ShaSums.f
  by_cases h : (s.size : Int) > 5000
  · exact Ev.pos h (Ev.call awake01 (Ev.some_ rfl))
  · refine Ev.neg h (Ev.call awake01 (Ev.pos rfl (Ev.call (sha_f s (by omega)) (Ev.bind (refsum_ev s (by omega)) (Ev.pos rfl (Ev.call (sha_f s (by omega)) (Ev.some_ ?_)))))))
    rw [shaSum_size]
    rfl
end Go.Proofs.Ytelcaepenfjloaa.Pure
