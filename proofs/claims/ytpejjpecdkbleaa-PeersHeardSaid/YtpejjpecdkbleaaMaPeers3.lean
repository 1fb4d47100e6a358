/- peers: Hear, Leave, the setters, Count. -/
import Derived.Test.YtpejjpecdkbleaaPrK
import Derived.Test.YtpejjpecdkbleaaMaPeers1
import Derived.Test.YtpejjpecdkbleaaMaPeers2
import Derived.Test.YtpejjpecdkbleaaMaPeers2
import Derived.IntWalk
import Derived.BigQuiet
import Derived.Deep.QuietTactic
import Derived.Deep.RegionLaw
import Derived.RegionTactic
import Derived.StillTailTactics
import Derived.Outline
import Derived.Shelf.GgClosure.Gives
namespace Go.Proofs.Ytpejjpecdkbleaa.Print
open Go.RowKit Go.Proofs.YtpejjpecdkbleaaW.PrintWords Go.Proofs.YtpejjpecdkbleaaW.PrintLast Go.Proofs.YtpejjpecdkbleaaW.PrintMore
set_option linter.unusedVariables false
set_option linter.unusedSimpArgs false

section
variable {w W W1 W2 : World} {g : Nat} {room tmo : Int} {ps ps' : Slots} {bs bs' : List Bool}
theorem Acted.after (hb : Below W.heap.size W W1) (a : Acted w W1 W2 g room tmo ps ps' bs') : Acted w W W2 g room tmo ps ps' bs' := ⟨a.tab, (Kept.of_below hb _).then_ a.kept (fun _ h => .inl h)⟩
theorem slot_none {n : Nat} (hl : ps.length = 16) (hn : n < 16) (h : ps.getD n none = none) : ps[n]? = some none := by
  rw [List.getD_eq_getElem?_getD, List.getElem?_eq_getElem (by omega)] at h
  rw [List.getElem?_eq_getElem (by omega)]
  simpa using h
/-- A peer that is not there. -/
theorem Tab.of_none (t : Tab w W g room tmo ps bs) (n : Int) (h : ¬ (1 ≤ n ∧ n ≤ 15) ∨ ps.getD n.toNat none = none) : Calls Try.prog 51 #[.pointer (some ⟨g, 0, none⟩), .int .i64 n] W fun e W2 => e = .returned (.pointer none) ∧ Drawn0 W W2 := by
  by_cases hn : 1 ≤ n ∧ n ≤ 15
  · obtain ⟨n, rfl⟩ := Int.eq_ofNat_of_zero_le (show 0 ≤ n by omega)
    have hs := h.resolve_left (fun k => k hn)
    rw [Int.toNat_natCast] at hs
    have := t.of_yes n (by omega) (by omega)
    rw [hs] at this
    exact this
  · exact of_no g n hn W
theorem Tab.Hear_yes (t : Tab w W g room tmo ps bs) (n : Nat) (h1 : 1 ≤ n) (h2 : n ≤ 15) {b : Nat} {p : Pr} (hp : ps[n]? = some (some (b, p))) (x : Int) (hx : 0 ≤ x ∧ x ≤ 1099511627776) :
    Calls Try.prog 19 #[.pointer (some ⟨g, 0, none⟩), .int .i64 n, .int .i64 x] W fun e W2 => e = .returned (.int .i64 0) ∧ Acted w W W2 g room tmo ps (ps.set n (some (b, { p with f6 := mx p.f6 x }))) bs := by
  have eg : ∀ args w, (callFunc 52 args).run Try.prog w = .ok (.enter 52 args) w := enters_of Try.func52 (by kernel_rfl) rfl
  have EG := Aside0.mk eg
  have HT := Aside0.mk t
  have HP := Aside0.mk hp
  have HTK := Aside0.mk (tick_yes x hx)
  clear t hp eg
  go_enter Try.func19, Try.ntmps19
  go_wp2_with fail
  refine (HTK.out _).mono ?_
  rintro e W2 ⟨rfl, ⟨m, rfl⟩⟩
  go_wp2_with fail
  have hbel : Below W.heap.size W ((W.alloc (.cells #[.int .i64 x] 3)).drewN m) := pw_below_drewN (below_alloc (Below.refl W.heap.size W) (.cells #[.int .i64 x] 3)) m
  refine ((HT.out.below hbel).with_some n h1 h2 b p HP.out 52 #[.pointer (some ⟨W.heap.size, 0, none⟩)] EG.out (fun W3 => Acted w W W3 g room tmo ps (ps.set n (some (b, { p with f6 := mx p.f6 x }))) bs) ?hc).mono ?_
  case hc =>
    rintro W2 ⟨q, rfl⟩
    refine (((HT.out.below hbel).drewN q).Hear_clo HP.out W.heap.size x (by simp)).mono ?_
    rintro e W3 ⟨rfl, hw⟩
    exact ⟨rfl, Acted.after (pw_below_drewN hbel q) (((HT.out.below hbel).drewN q).wrote HP.out 7 _ hw _ rfl rfl)⟩
  rintro e W3 ⟨rfl, ha⟩
  have HA := Aside0.mk ha
  clear ha hbel
  go_wp2_with fail
  go_ret
  exact ⟨rfl, HA.out⟩
theorem Tab.Hear_none (t : Tab w W g room tmo ps bs) (n : Int) (h : ¬ (1 ≤ n ∧ n ≤ 15) ∨ ps.getD n.toNat none = none) (x : Int) (hx : 0 ≤ x ∧ x ≤ 1099511627776) :
    Calls Try.prog 19 #[.pointer (some ⟨g, 0, none⟩), .int .i64 n, .int .i64 x] W fun e W2 => e = .returned (.int .i64 4) ∧ Acted w W W2 g room tmo ps ps bs := by
  have HT := Aside0.mk t
  have HN := Aside0.mk h
  have HTK := Aside0.mk (tick_yes x hx)
  clear t h
  go_enter Try.func19, Try.ntmps19
  go_wp2_with fail
  refine (HTK.out _).mono ?_
  rintro e W2 ⟨rfl, ⟨m, rfl⟩⟩
  go_wp2_with fail
  have hbel : Below W.heap.size W ((W.alloc (.cells #[.int .i64 x] 3)).drewN m) := pw_below_drewN (below_alloc (Below.refl W.heap.size W) (.cells #[.int .i64 x] 3)) m
  refine (with_none g n 52 #[.pointer (some ⟨W.heap.size, 0, none⟩)] _ ((HT.out.below hbel).of_none n HN.out)).mono ?_
  rintro e W3 ⟨rfl, hd⟩
  have HA := Aside0.mk (show Acted w W _ g room tmo ps ps bs from Acted.refl HT.out (below_step hbel (Drawn0.below hd)))
  clear hbel hd
  go_wp2_with fail
  go_ret
  exact ⟨rfl, HA.out⟩
theorem Tab.Hear_bad (t : Tab w W g room tmo ps bs) (n : Int) (x : Int) (hx : ¬ (0 ≤ x ∧ x ≤ 1099511627776)) :
    Calls Try.prog 19 #[.pointer (some ⟨g, 0, none⟩), .int .i64 n, .int .i64 x] W fun e W2 => e = .returned (.int .i64 1) ∧ Acted w W W2 g room tmo ps ps bs := by
  have HT := Aside0.mk t
  clear t
  have HTK := Aside0.mk (tick_no x hx)
  clear hx
  go_enter Try.func19, Try.ntmps19
  go_wp2_with fail
  refine (HTK.out _).mono ?_
  rintro e W2 ⟨rfl, ⟨m, rfl⟩⟩
  go_wp2_with fail
  go_ret
  exact ⟨rfl, Acted.refl HT.out (pw_below_drewN (below_alloc (Below.refl _ _) _) m)⟩
theorem Tab.SetHave_yes (t : Tab w W g room tmo ps bs) (n : Nat) (h1 : 1 ≤ n) (h2 : n ≤ 15) {b : Nat} {p : Pr} (hp : ps[n]? = some (some (b, p))) (x : ByteArray) (hx : (x.size : Int) ≤ 20) :
    Calls Try.prog 29 #[.pointer (some ⟨g, 0, none⟩), .int .i64 n, .string x] W fun e W2 => e = .returned (.int .i64 0) ∧ Acted w W W2 g room tmo ps (ps.set n (some (b, { p with f2 := x }))) bs := by
  have eg : ∀ args w, (callFunc 61 args).run Try.prog w = .ok (.enter 61 args) w := enters_of Try.func61 (by kernel_rfl) rfl
  have EG := Aside0.mk eg
  have HT := Aside0.mk t
  have HP := Aside0.mk hp
  clear t hp eg
  go_enter Try.func29, Try.ntmps29
  go_wp2_with fail
  have hbel : Below W.heap.size W (W.alloc (.cells #[.string x] 9)) := below_alloc (Below.refl W.heap.size W) (.cells #[.string x] 9)
  refine ((HT.out.below hbel).with_some n h1 h2 b p HP.out 61 #[.pointer (some ⟨W.heap.size, 0, none⟩)] EG.out (fun W3 => Acted w W W3 g room tmo ps (ps.set n (some (b, { p with f2 := x }))) bs) ?hc).mono ?_
  case hc =>
    rintro W2 ⟨q, rfl⟩
    refine (((HT.out.below hbel).drewN q).SetHave_clo HP.out W.heap.size x (by simp)).mono ?_
    rintro e W3 ⟨rfl, hw⟩
    exact ⟨rfl, Acted.after (pw_below_drewN hbel q) (((HT.out.below hbel).drewN q).wrote HP.out 3 _ hw _ rfl rfl)⟩
  rintro e W3 ⟨rfl, ha⟩
  have HA := Aside0.mk ha
  clear ha hbel
  go_wp2_with fail
  go_ret
  exact ⟨rfl, HA.out⟩
theorem Tab.SetHave_none (t : Tab w W g room tmo ps bs) (n : Int) (h : ¬ (1 ≤ n ∧ n ≤ 15) ∨ ps.getD n.toNat none = none) (x : ByteArray) (hx : (x.size : Int) ≤ 20) :
    Calls Try.prog 29 #[.pointer (some ⟨g, 0, none⟩), .int .i64 n, .string x] W fun e W2 => e = .returned (.int .i64 4) ∧ Acted w W W2 g room tmo ps ps bs := by
  have HT := Aside0.mk t
  have HN := Aside0.mk h
  clear t h
  go_enter Try.func29, Try.ntmps29
  go_wp2_with fail
  have hbel : Below W.heap.size W (W.alloc (.cells #[.string x] 9)) := below_alloc (Below.refl W.heap.size W) (.cells #[.string x] 9)
  refine (with_none g n 61 #[.pointer (some ⟨W.heap.size, 0, none⟩)] _ ((HT.out.below hbel).of_none n HN.out)).mono ?_
  rintro e W3 ⟨rfl, hd⟩
  have HA := Aside0.mk (show Acted w W _ g room tmo ps ps bs from Acted.refl HT.out (below_step hbel (Drawn0.below hd)))
  clear hbel hd
  go_wp2_with fail
  go_ret
  exact ⟨rfl, HA.out⟩
theorem Tab.SetHave_bad (t : Tab w W g room tmo ps bs) (n : Int) (x : ByteArray) (hx : ¬ (x.size : Int) ≤ 20) :
    Calls Try.prog 29 #[.pointer (some ⟨g, 0, none⟩), .int .i64 n, .string x] W fun e W2 => e = .returned (.int .i64 1) ∧ Acted w W W2 g room tmo ps ps bs := by
  have HT := Aside0.mk t
  clear t
  have hx2 : (x.size : Int) > 20 := by omega
  go_enter Try.func29, Try.ntmps29
  go_wp2_with fail
  go_ret
  exact ⟨rfl, Acted.refl HT.out (below_alloc (Below.refl _ _) _)⟩
theorem Tab.SetWants_yes (t : Tab w W g room tmo ps bs) (n : Nat) (h1 : 1 ≤ n) (h2 : n ≤ 15) {b : Nat} {p : Pr} (hp : ps[n]? = some (some (b, p))) (x : Bool) :
    Calls Try.prog 30 #[.pointer (some ⟨g, 0, none⟩), .int .i64 n, .bool x] W fun e W2 => e = .returned (.int .i64 0) ∧ Acted w W W2 g room tmo ps (ps.set n (some (b, { p with f3 := x }))) bs := by
  have eg : ∀ args w, (callFunc 62 args).run Try.prog w = .ok (.enter 62 args) w := enters_of Try.func62 (by kernel_rfl) rfl
  have EG := Aside0.mk eg
  have HT := Aside0.mk t
  have HP := Aside0.mk hp
  clear t hp eg
  go_enter Try.func30, Try.ntmps30
  go_wp2_with fail
  have hbel : Below W.heap.size W (W.alloc (.cells #[.bool x] 4)) := below_alloc (Below.refl W.heap.size W) (.cells #[.bool x] 4)
  refine ((HT.out.below hbel).with_some n h1 h2 b p HP.out 62 #[.pointer (some ⟨W.heap.size, 0, none⟩)] EG.out (fun W3 => Acted w W W3 g room tmo ps (ps.set n (some (b, { p with f3 := x }))) bs) ?hc).mono ?_
  case hc =>
    rintro W2 ⟨q, rfl⟩
    refine (((HT.out.below hbel).drewN q).SetWants_clo HP.out W.heap.size x (by simp)).mono ?_
    rintro e W3 ⟨rfl, hw⟩
    exact ⟨rfl, Acted.after (pw_below_drewN hbel q) (((HT.out.below hbel).drewN q).wrote HP.out 4 _ hw _ rfl rfl)⟩
  rintro e W3 ⟨rfl, ha⟩
  have HA := Aside0.mk ha
  clear ha hbel
  go_wp2_with fail
  go_ret
  exact ⟨rfl, HA.out⟩
theorem Tab.SetWants_none (t : Tab w W g room tmo ps bs) (n : Int) (h : ¬ (1 ≤ n ∧ n ≤ 15) ∨ ps.getD n.toNat none = none) (x : Bool) :
    Calls Try.prog 30 #[.pointer (some ⟨g, 0, none⟩), .int .i64 n, .bool x] W fun e W2 => e = .returned (.int .i64 4) ∧ Acted w W W2 g room tmo ps ps bs := by
  have HT := Aside0.mk t
  have HN := Aside0.mk h
  clear t h
  go_enter Try.func30, Try.ntmps30
  go_wp2_with fail
  have hbel : Below W.heap.size W (W.alloc (.cells #[.bool x] 4)) := below_alloc (Below.refl W.heap.size W) (.cells #[.bool x] 4)
  refine (with_none g n 62 #[.pointer (some ⟨W.heap.size, 0, none⟩)] _ ((HT.out.below hbel).of_none n HN.out)).mono ?_
  rintro e W3 ⟨rfl, hd⟩
  have HA := Aside0.mk (show Acted w W _ g room tmo ps ps bs from Acted.refl HT.out (below_step hbel (Drawn0.below hd)))
  clear hbel hd
  go_wp2_with fail
  go_ret
  exact ⟨rfl, HA.out⟩
theorem Tab.SetOpen_yes (t : Tab w W g room tmo ps bs) (n : Nat) (h1 : 1 ≤ n) (h2 : n ≤ 15) {b : Nat} {p : Pr} (hp : ps[n]? = some (some (b, p))) (x : Bool) :
    Calls Try.prog 31 #[.pointer (some ⟨g, 0, none⟩), .int .i64 n, .bool x] W fun e W2 => e = .returned (.int .i64 0) ∧ Acted w W W2 g room tmo ps (ps.set n (some (b, { p with f4 := x }))) bs := by
  have eg : ∀ args w, (callFunc 63 args).run Try.prog w = .ok (.enter 63 args) w := enters_of Try.func63 (by kernel_rfl) rfl
  have EG := Aside0.mk eg
  have HT := Aside0.mk t
  have HP := Aside0.mk hp
  clear t hp eg
  go_enter Try.func31, Try.ntmps31
  go_wp2_with fail
  have hbel : Below W.heap.size W (W.alloc (.cells #[.bool x] 4)) := below_alloc (Below.refl W.heap.size W) (.cells #[.bool x] 4)
  refine ((HT.out.below hbel).with_some n h1 h2 b p HP.out 63 #[.pointer (some ⟨W.heap.size, 0, none⟩)] EG.out (fun W3 => Acted w W W3 g room tmo ps (ps.set n (some (b, { p with f4 := x }))) bs) ?hc).mono ?_
  case hc =>
    rintro W2 ⟨q, rfl⟩
    refine (((HT.out.below hbel).drewN q).SetOpen_clo HP.out W.heap.size x (by simp)).mono ?_
    rintro e W3 ⟨rfl, hw⟩
    exact ⟨rfl, Acted.after (pw_below_drewN hbel q) (((HT.out.below hbel).drewN q).wrote HP.out 5 _ hw _ rfl rfl)⟩
  rintro e W3 ⟨rfl, ha⟩
  have HA := Aside0.mk ha
  clear ha hbel
  go_wp2_with fail
  go_ret
  exact ⟨rfl, HA.out⟩
theorem Tab.SetOpen_none (t : Tab w W g room tmo ps bs) (n : Int) (h : ¬ (1 ≤ n ∧ n ≤ 15) ∨ ps.getD n.toNat none = none) (x : Bool) :
    Calls Try.prog 31 #[.pointer (some ⟨g, 0, none⟩), .int .i64 n, .bool x] W fun e W2 => e = .returned (.int .i64 4) ∧ Acted w W W2 g room tmo ps ps bs := by
  have HT := Aside0.mk t
  have HN := Aside0.mk h
  clear t h
  go_enter Try.func31, Try.ntmps31
  go_wp2_with fail
  have hbel : Below W.heap.size W (W.alloc (.cells #[.bool x] 4)) := below_alloc (Below.refl W.heap.size W) (.cells #[.bool x] 4)
  refine (with_none g n 63 #[.pointer (some ⟨W.heap.size, 0, none⟩)] _ ((HT.out.below hbel).of_none n HN.out)).mono ?_
  rintro e W3 ⟨rfl, hd⟩
  have HA := Aside0.mk (show Acted w W _ g room tmo ps ps bs from Acted.refl HT.out (below_step hbel (Drawn0.below hd)))
  clear hbel hd
  go_wp2_with fail
  go_ret
  exact ⟨rfl, HA.out⟩
theorem Tab.SetOpens_yes (t : Tab w W g room tmo ps bs) (n : Nat) (h1 : 1 ≤ n) (h2 : n ≤ 15) {b : Nat} {p : Pr} (hp : ps[n]? = some (some (b, p))) (x : Bool) :
    Calls Try.prog 32 #[.pointer (some ⟨g, 0, none⟩), .int .i64 n, .bool x] W fun e W2 => e = .returned (.int .i64 0) ∧ Acted w W W2 g room tmo ps (ps.set n (some (b, { p with f5 := x }))) bs := by
  have eg : ∀ args w, (callFunc 64 args).run Try.prog w = .ok (.enter 64 args) w := enters_of Try.func64 (by kernel_rfl) rfl
  have EG := Aside0.mk eg
  have HT := Aside0.mk t
  have HP := Aside0.mk hp
  clear t hp eg
  go_enter Try.func32, Try.ntmps32
  go_wp2_with fail
  have hbel : Below W.heap.size W (W.alloc (.cells #[.bool x] 4)) := below_alloc (Below.refl W.heap.size W) (.cells #[.bool x] 4)
  refine ((HT.out.below hbel).with_some n h1 h2 b p HP.out 64 #[.pointer (some ⟨W.heap.size, 0, none⟩)] EG.out (fun W3 => Acted w W W3 g room tmo ps (ps.set n (some (b, { p with f5 := x }))) bs) ?hc).mono ?_
  case hc =>
    rintro W2 ⟨q, rfl⟩
    refine (((HT.out.below hbel).drewN q).SetOpens_clo HP.out W.heap.size x (by simp)).mono ?_
    rintro e W3 ⟨rfl, hw⟩
    exact ⟨rfl, Acted.after (pw_below_drewN hbel q) (((HT.out.below hbel).drewN q).wrote HP.out 6 _ hw _ rfl rfl)⟩
  rintro e W3 ⟨rfl, ha⟩
  have HA := Aside0.mk ha
  clear ha hbel
  go_wp2_with fail
  go_ret
  exact ⟨rfl, HA.out⟩
theorem Tab.SetOpens_none (t : Tab w W g room tmo ps bs) (n : Int) (h : ¬ (1 ≤ n ∧ n ≤ 15) ∨ ps.getD n.toNat none = none) (x : Bool) :
    Calls Try.prog 32 #[.pointer (some ⟨g, 0, none⟩), .int .i64 n, .bool x] W fun e W2 => e = .returned (.int .i64 4) ∧ Acted w W W2 g room tmo ps ps bs := by
  have HT := Aside0.mk t
  have HN := Aside0.mk h
  clear t h
  go_enter Try.func32, Try.ntmps32
  go_wp2_with fail
  have hbel : Below W.heap.size W (W.alloc (.cells #[.bool x] 4)) := below_alloc (Below.refl W.heap.size W) (.cells #[.bool x] 4)
  refine (with_none g n 64 #[.pointer (some ⟨W.heap.size, 0, none⟩)] _ ((HT.out.below hbel).of_none n HN.out)).mono ?_
  rintro e W3 ⟨rfl, hd⟩
  have HA := Aside0.mk (show Acted w W _ g room tmo ps ps bs from Acted.refl HT.out (below_step hbel (Drawn0.below hd)))
  clear hbel hd
  go_wp2_with fail
  go_ret
  exact ⟨rfl, HA.out⟩
theorem Tab.Count_yes (t : Tab w W g room tmo ps bs) (n : Nat) (h1 : 1 ≤ n) (h2 : n ≤ 15) {b : Nat} {p : Pr} (hp : ps[n]? = some (some (b, p))) (x : Int) (hx : 0 ≤ x ∧ x ≤ 1099511627776) (hq : 0 ≤ p.f7 ∧ p.f7 ≤ 1099511627776) :
    Calls Try.prog 15 #[.pointer (some ⟨g, 0, none⟩), .int .i64 n, .int .i64 x] W fun e W2 => e = .returned (.int .i64 0) ∧ Acted w W W2 g room tmo ps (ps.set n (some (b, { p with f7 := mn (p.f7 + x) 1099511627776 }))) bs := by
  have eg : ∀ args w, (callFunc 50 args).run Try.prog w = .ok (.enter 50 args) w := enters_of Try.func50 (by kernel_rfl) rfl
  have EG := Aside0.mk eg
  have HT := Aside0.mk t
  have HP := Aside0.mk hp
  obtain ⟨hx0, hx1⟩ := hx
  clear t hp eg
  go_enter Try.func15, Try.ntmps15
  go_wp2_with fail
  have hbel : Below W.heap.size W (W.alloc (.cells #[.int .i64 x] 3)) := below_alloc (Below.refl W.heap.size W) (.cells #[.int .i64 x] 3)
  refine ((HT.out.below hbel).with_some n h1 h2 b p HP.out 50 #[.pointer (some ⟨W.heap.size, 0, none⟩)] EG.out (fun W3 => Acted w W W3 g room tmo ps (ps.set n (some (b, { p with f7 := mn (p.f7 + x) 1099511627776 }))) bs) ?hc).mono ?_
  case hc =>
    rintro W2 ⟨q, rfl⟩
    refine (((HT.out.below hbel).drewN q).Count_clo HP.out W.heap.size x ⟨hx0, hx1⟩ hq (by simp)).mono ?_
    rintro e W3 ⟨rfl, hw⟩
    exact ⟨rfl, Acted.after (pw_below_drewN hbel q) (((HT.out.below hbel).drewN q).wrote HP.out 8 _ hw _ rfl rfl)⟩
  rintro e W3 ⟨rfl, ha⟩
  have HA := Aside0.mk ha
  clear ha hbel
  go_wp2_with fail
  go_ret
  exact ⟨rfl, HA.out⟩
theorem Tab.Count_none (t : Tab w W g room tmo ps bs) (n : Int) (h : ¬ (1 ≤ n ∧ n ≤ 15) ∨ ps.getD n.toNat none = none) (x : Int) (hx : 0 ≤ x ∧ x ≤ 1099511627776) :
    Calls Try.prog 15 #[.pointer (some ⟨g, 0, none⟩), .int .i64 n, .int .i64 x] W fun e W2 => e = .returned (.int .i64 4) ∧ Acted w W W2 g room tmo ps ps bs := by
  have HT := Aside0.mk t
  have HN := Aside0.mk h
  obtain ⟨hx0, hx1⟩ := hx
  clear t h
  go_enter Try.func15, Try.ntmps15
  go_wp2_with fail
  have hbel : Below W.heap.size W (W.alloc (.cells #[.int .i64 x] 3)) := below_alloc (Below.refl W.heap.size W) (.cells #[.int .i64 x] 3)
  refine (with_none g n 50 #[.pointer (some ⟨W.heap.size, 0, none⟩)] _ ((HT.out.below hbel).of_none n HN.out)).mono ?_
  rintro e W3 ⟨rfl, hd⟩
  have HA := Aside0.mk (show Acted w W _ g room tmo ps ps bs from Acted.refl HT.out (below_step hbel (Drawn0.below hd)))
  clear hbel hd
  go_wp2_with fail
  go_ret
  exact ⟨rfl, HA.out⟩
theorem Tab.Count_bad (t : Tab w W g room tmo ps bs) (n : Int) (x : Int) (hx : ¬ (0 ≤ x ∧ x ≤ 1099511627776)) :
    Calls Try.prog 15 #[.pointer (some ⟨g, 0, none⟩), .int .i64 n, .int .i64 x] W fun e W2 => e = .returned (.int .i64 1) ∧ Acted w W W2 g room tmo ps ps bs := by
  have HT := Aside0.mk t
  clear t
  by_cases hx0 : x < 0
  all_goals
    first | (have hx1 : x > 1099511627776 := by omega) | skip
    clear hx
    go_enter Try.func15, Try.ntmps15
    go_wp2_with fail
    go_ret
    exact ⟨rfl, Acted.refl HT.out (below_alloc (Below.refl _ _) _)⟩
end
end Go.Proofs.Ytpejjpecdkbleaa.Print
