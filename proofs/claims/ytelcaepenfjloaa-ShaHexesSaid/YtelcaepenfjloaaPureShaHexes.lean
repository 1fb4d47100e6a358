/- Any bytes in hexadecimal digits, and the bytes of any digits, are the document's; what is written so is read again, and only so; up to 2,000 bytes. -/
import Derived.Test.YtelcaepenfjloaaStmShaHexes
import Derived.Test.YtelcaepenfjloaaPureHex
namespace Go.Proofs.Ytelcaepenfjloaa.Pure
open Go.RowKit Go.Proofs.Ytelcaepenfjloaa.Print Go.Proofs.YtelcaepenfjloaaW.PrintWords Go.Proofs.YtelcaepenfjloaaW.PrintLast
set_option linter.unusedVariables false

theorem hex_f (s : ByteArray) (h : s.size ≤ 70368744177664) : sha_Hex.f s = some (strOfNums (hexL (bytesOf s))) := if_pos h
theorem ShaHexes : mosaiclaw01_ShaHexes.Pure := by
  intro s hs
  refine Ev.rounds ?_
  unfold mosaiclaw01_ShaHexes.f
  by_cases h : (s.size : Int) > 2000
  · exact Ev.pos h (Ev.call awake01 (Ev.some_ rfl))
  have hb := bytesOf_length s
  have hz : (strOfNums (hexL (bytesOf s))).size = 2 * s.size := by rw [strOfNums_size, hexL_length, hb]
  have hu : unhexR [] (unhexL (bytesOf (strOfNums (hexL (bytesOf s))))) = (s, 0) := by
    rw [bytesOf_strOfNums _ (hexL_range _), unhex_hex _ (bytesOf_range s)]
    show (strOfNums ([] ++ bytesOf s), (0 : Int)) = _
    rw [List.nil_append, strOfNums_bytesOf]
  have hu2 := unhex_ev (strOfNums (hexL (bytesOf s))) (by omega)
  rw [hu] at hu2
  refine Ev.neg h (Ev.bind (unhex_ev s (by omega)) (Ev.bind (refunhex_ev s (by omega)) (Ev.call (hex_f s (by omega)) (Ev.bind hu2 (Ev.call awake01 (Ev.pos rfl (Ev.call (hex_f s (by omega)) (Ev.bind (refhex_ev s (by omega)) (Ev.pos rfl (Ev.pos rfl (Ev.pos rfl (Ev.pos rfl (Ev.pos rfl ?_)))))))))))))
  cases hc : unhexL (bytesOf s) with
  | none => exact Ev.neg (by simp [unhexR]) (Ev.some_ rfl)
  | some r =>
    obtain ⟨h1, h2, h3⟩ := hex_unhex _ _ hc
    refine Ev.pos rfl (Ev.call (hex_f _ ?_) (Ev.some_ ?_))
    · show (strOfNums ([] ++ r)).size ≤ _
      rw [strOfNums_size, List.nil_append]
      omega
    · show ((strOfNums (hexL (bytesOf (strOfNums ([] ++ r))))).toList == s.toList) = true
      rw [List.nil_append, bytesOf_strOfNums _ h3, h1, strOfNums_bytesOf]
      simp
end Go.Proofs.Ytelcaepenfjloaa.Pure
