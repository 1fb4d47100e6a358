/- peers: a nil table. -/
import Derived.Test.YtpejjpecdkbleaaPrK
import Derived.Test.YtpejjpecdkbleaaMaPeers1
import Derived.Test.YtpejjpecdkbleaaMaPeers4
import Derived.Test.YtpejjpecdkbleaaMaPeers9
import Derived.IntWalk
import Derived.BigQuiet
import Derived.Deep.QuietTactic
import Derived.Deep.RegionLaw
import Derived.RegionTactic
import Derived.Outline
import Derived.Shelf.GgClosure.Gives
import Derived.Laws.CopyOwn
namespace Go.Proofs.Ytpejjpecdkbleaa.Print
open Go.RowKit Go.Proofs.YtpejjpecdkbleaaW.PrintWords Go.Proofs.YtpejjpecdkbleaaW.PrintLast Go.Proofs.YtpejjpecdkbleaaW.PrintMore
set_option linter.unusedVariables false
set_option linter.unusedSimpArgs false

theorem nil_of (n : Int) (W : World) : Calls Try.prog 51 #[.pointer none, .int .i64 n] W fun e W2 => e = .returned (.pointer none) ∧ Drawn0 W W2 := by
  go_enter Try.func51, Try.ntmps51
  go_wp2_with fail
  go_ret
  exact ⟨rfl, ⟨0, rfl⟩⟩
theorem nil_with (n : Int) (f : Value) (W : World) : Calls Try.prog 49 #[.pointer none, .int .i64 n, f] W fun e W2 => e = .returned (.int .i64 1) ∧ Drawn0 W W2 := by
  go_enter Try.func49, Try.ntmps49
  go_wp2_with fail
  go_ret
  exact ⟨rfl, ⟨0, rfl⟩⟩
theorem nil_SetWants (n : Int) (x : Bool) (W : World) : Calls Try.prog 30 #[.pointer none, .int .i64 n, .bool x] W fun e W2 => e = .returned (.int .i64 1) ∧ Below W.heap.size W W2 := by
  go_enter Try.func30, Try.ntmps30
  go_wp2_with (go_at_call 49; refine (nil_with n _ _).mono ?_; rintro e W2 ⟨rfl, ⟨m, rfl⟩⟩)
  go_ret
  exact ⟨rfl, pw_below_drewN (below_alloc (Below.refl _ _) _) m⟩
theorem nil_SetOpen (n : Int) (x : Bool) (W : World) : Calls Try.prog 31 #[.pointer none, .int .i64 n, .bool x] W fun e W2 => e = .returned (.int .i64 1) ∧ Below W.heap.size W W2 := by
  go_enter Try.func31, Try.ntmps31
  go_wp2_with (go_at_call 49; refine (nil_with n _ _).mono ?_; rintro e W2 ⟨rfl, ⟨m, rfl⟩⟩)
  go_ret
  exact ⟨rfl, pw_below_drewN (below_alloc (Below.refl _ _) _) m⟩
theorem nil_SetOpens (n : Int) (x : Bool) (W : World) : Calls Try.prog 32 #[.pointer none, .int .i64 n, .bool x] W fun e W2 => e = .returned (.int .i64 1) ∧ Below W.heap.size W W2 := by
  go_enter Try.func32, Try.ntmps32
  go_wp2_with (go_at_call 49; refine (nil_with n _ _).mono ?_; rintro e W2 ⟨rfl, ⟨m, rfl⟩⟩)
  go_ret
  exact ⟨rfl, pw_below_drewN (below_alloc (Below.refl _ _) _) m⟩
theorem nil_Leave (n : Int) (W : World) : Calls Try.prog 27 #[.pointer none, .int .i64 n] W fun e W2 => e = .returned (.int .i64 1) ∧ Below W.heap.size W W2 := by
  go_enter Try.func27, Try.ntmps27
  go_wp2_with (go_at_call 49; refine (nil_with n _ _).mono ?_; rintro e W2 ⟨rfl, ⟨m, rfl⟩⟩)
  go_ret
  exact ⟨rfl, pw_below_drewN (below_alloc (Below.refl _ _) _) m⟩
theorem nil_Hear (n x : Int) (W : World) : Calls Try.prog 19 #[.pointer none, .int .i64 n, .int .i64 x] W fun e W2 => e = .returned (.int .i64 1) ∧ Below W.heap.size W W2 := by
  by_cases hx : 0 ≤ x ∧ x ≤ 1099511627776
  · have HK := Aside0.mk (tick_yes x hx)
    clear hx
    go_enter Try.func19, Try.ntmps19
    go_wp2_with (first | (go_at_call 48; refine (HK.out _).mono ?_; rintro e W2 ⟨rfl, ⟨m, rfl⟩⟩) | (go_at_call 49; refine (nil_with n _ _).mono ?_; rintro e W2 ⟨rfl, ⟨m2, rfl⟩⟩))
    go_ret
    exact ⟨rfl, pw_below_drewN (below_alloc (Below.refl _ _) _) (m + m2)⟩
  · have HK := Aside0.mk (tick_no x hx)
    clear hx
    go_enter Try.func19, Try.ntmps19
    go_wp2_with (first | (go_at_call 48; refine (HK.out _).mono ?_; rintro e W2 ⟨rfl, ⟨m, rfl⟩⟩))
    go_ret
    exact ⟨rfl, pw_below_drewN (below_alloc (Below.refl _ _) _) m⟩
theorem nil_SetHave (n : Int) (x : ByteArray) (W : World) : Calls Try.prog 29 #[.pointer none, .int .i64 n, .string x] W fun e W2 => e = .returned (.int .i64 1) ∧ Below W.heap.size W W2 := by
  by_cases hx : (x.size : Int) ≤ 20
  · go_enter Try.func29, Try.ntmps29
    go_wp2_with (first | (go_at_call 49; refine (nil_with n _ _).mono ?_; rintro e W2 ⟨rfl, ⟨m2, rfl⟩⟩))
    go_ret
    exact ⟨rfl, pw_below_drewN (below_alloc (Below.refl _ _) _) m2⟩
  · have hx2 : (x.size : Int) > 20 := by omega
    clear hx
    go_enter Try.func29, Try.ntmps29
    go_wp2_with fail
    go_ret
    exact ⟨rfl, below_alloc (Below.refl _ _) _⟩
theorem nil_Count (n x : Int) (W : World) : Calls Try.prog 15 #[.pointer none, .int .i64 n, .int .i64 x] W fun e W2 => e = .returned (.int .i64 1) ∧ Below W.heap.size W W2 := by
  by_cases h0 : x < 0
  · go_enter Try.func15, Try.ntmps15
    go_wp2_with fail
    go_ret
    exact ⟨rfl, below_alloc (Below.refl _ _) _⟩
  · by_cases h1 : x > 1099511627776
    · go_enter Try.func15, Try.ntmps15
      go_wp2_with fail
      go_ret
      exact ⟨rfl, below_alloc (Below.refl _ _) _⟩
    · go_enter Try.func15, Try.ntmps15
      go_wp2_with (first | (go_at_call 49; refine (nil_with n _ _).mono ?_; rintro e W2 ⟨rfl, ⟨m2, rfl⟩⟩))
      go_ret
      exact ⟨rfl, pw_below_drewN (below_alloc (Below.refl _ _) _) m2⟩
theorem nil_Meet (n : Int) (x y now : Int) (W : World) : Calls Try.prog 14 #[.pointer none, .int .i64 n, .agg #[.int .i64 x, .int .i64 y], .int .i64 now] W fun e W2 => e = .returned (.int .i64 1) ∧ Below W.heap.size W W2 := by
  go_enter Try.func14, Try.ntmps14
  go_wp2_with fail
  go_ret
  exact ⟨rfl, below_alloc (Below.refl _ _) _⟩
theorem nil_Ban (n : Int) (W : World) : Calls Try.prog 28 #[.pointer none, .int .i64 n] W fun e W2 => e = .returned (.int .i64 1) ∧ Below W.heap.size W W2 := by
  go_enter Try.func28, Try.ntmps28
  go_wp2_with fail
  go_ret
  exact ⟨rfl, Below.refl _ _⟩
theorem nil_Expire (n : Int) (W : World) : Calls Try.prog 18 #[.pointer none, .int .i64 n] W fun e W2 => e = .returned (.slice none 0 0) ∧ Below W.heap.size W W2 := by
  go_enter Try.func18, Try.ntmps18
  go_wp2_with fail
  go_ret
  exact ⟨rfl, Below.refl _ _⟩
theorem nil_List (W : World) : Calls Try.prog 21 #[.pointer none] W fun e W2 => e = .returned (.slice none 0 0) ∧ Below W.heap.size W W2 := by
  go_enter Try.func21, Try.ntmps21
  go_wp2_with fail
  go_ret
  exact ⟨rfl, Below.refl _ _⟩
theorem nil_Len (W : World) : Calls Try.prog 22 #[.pointer none] W fun e W2 => e = .returned (.int .i64 0) ∧ Below W.heap.size W W2 := by
  go_enter Try.func22, Try.ntmps22
  go_wp2_with (go_at_call 21; refine (nil_List _).mono ?_; rintro e W2 ⟨rfl, hb⟩)
  go_ret
  exact ⟨rfl, hb⟩
theorem nil_Banned (n : Int) (W : World) : Calls Try.prog 23 #[.pointer none, .int .i64 n] W fun e W2 => e = .returned (.bool false) ∧ Below W.heap.size W W2 := by
  go_enter Try.func23, Try.ntmps23
  go_wp2_with fail
  go_ret
  exact ⟨rfl, Below.refl _ _⟩
theorem nil_Roll (W : World) : Calls Try.prog 16 #[.pointer none] W fun e W2 => e = .returned (.tuple #[]) ∧ Below W.heap.size W W2 := by
  go_enter Try.func16, Try.ntmps16
  go_wp2_with fail
  exact bodyPost_ret (results_none rfl _ _ _) rfl ⟨rfl, Below.refl _ _⟩
theorem nil_Get (n : Int) (W : World) : Calls Try.prog 17 #[.pointer none, .int .i64 n] W fun e W2 => e = .returned (.tuple #[.agg (peerC z33).toArray, .bool false]) ∧ Below W.heap.size W W2 := by
  have HOF := Aside0.mk (nil_of n (W.alloc (.cells (peerC z33).toArray 33)))
  go_enter Try.func17, Try.ntmps17
  go_wp2_with fail
  refine HOF.out.mono ?_
  rintro e W2 ⟨rfl, ⟨m, rfl⟩⟩
  go_wp2_with (refine wpList_store_row rfl 33 (.tmp 4) _ rfl W.heap.size (peerC z33).toArray rfl rfl 33 _ (blk_drewN (heap_alloc_new W _) m) info33z rfl (peer_one _) ?_)
  refine bodyPost_ret (v := .tuple #[.agg (peerC z33).toArray, .bool false]) (results_list (rs := [.cell 4 33, .tmp 5]) rfl (by simp) (.cell W.heap.size 33 _ (0, 0) _ rfl (setRow_heap _ _ _ _ _ _ (blk_drewN (heap_alloc_new W _) m)) Try.underlying33 rfl info33z (.tmp .nil))) rfl ?_
  exact ⟨rfl, below_setRow (pw_below_drewN (below_alloc (Below.refl _ _) _) m) (Nat.le_refl _) _⟩
end Go.Proofs.Ytpejjpecdkbleaa.Print
