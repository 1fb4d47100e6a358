/- A label and its gotos, walked as a loop with a ghost number of rounds. -/
import Derived.ScopeJumps
import Derived.Control
import Derived.WalkMore
namespace Go.Proofs.Ytcddajdjmlmpdaa.Print

theorem least_of {p : Nat → Prop} (h : ∃ n, p n) : ∃ n, p n ∧ ∀ m, p m → n ≤ m := by
  obtain ⟨n, hn⟩ := h
  induction n using Nat.strongRecOn with
  | _ n ih =>
    by_cases hm : ∃ m, m < n ∧ p m
    · obtain ⟨m, hlt, hp⟩ := hm
      exact ih m hlt hp
    · exact ⟨n, hn, fun m hp => Nat.le_of_not_lt fun hlt => hm ⟨m, hlt, hp⟩⟩

theorem wp_scope_ghost {P : Program} {a : Act} {w : World} {Q : Exit → Act → World → Prop} {c B : Code} (l : Nat) (R : Nat → Act → World → Prop) (hf : findLabel c l = some (Code.seq Code.skip B))
    (round : ∀ g a w, R g a w → B.wp P (Exit.jump l (fun a' w' => ∃ g', g' < g ∧ R g' a' w') Q) a w)
    (first : (∀ g a w, R g a w → B.wp P (Exit.jump l (fun a' w' => ∃ g', R g' a' w') Q) a w) → c.wp P (Exit.jump l (fun a' w' => ∃ g', R g' a' w') Q) a w) : (Code.scope c).wp P Q a w := by
  classical
  have mono : ∀ g a w, R g a w → B.wp P (Exit.jump l (fun a' w' => ∃ g', R g' a' w') Q) a w := by
    intro g a w h
    refine wp_mono (round g a w h) ?_
    intro e a1 w1 h1
    cases e with
    | goto l' =>
      obtain ⟨e, g', _, h2⟩ := h1
      exact ⟨e, g', h2⟩
    | _ => exact h1
  refine wp_scope_jumps l (fun a w => ∃ g, R g a w) (fun a w => if h : ∃ g, R g a w then Classical.choose (least_of h) else 0) hf (first mono) ?_
  intro a w h
  have hR := (Classical.choose_spec (least_of h)).1
  have h1 := round _ a w hR
  refine wp_seq (wp_skip ?_)
  refine wp_mono h1 ?_
  intro e a1 w1 h1
  cases e with
  | goto l' =>
    obtain ⟨e, g', hlt, h2⟩ := h1
    refine ⟨e, ⟨g', h2⟩, ?_⟩
    have hex : ∃ g, R g a1 w1 := ⟨g', h2⟩
    rw [dif_pos hex, dif_pos h]
    exact Nat.lt_of_le_of_lt ((Classical.choose_spec (least_of hex)).2 _ h2) hlt
  | _ => exact h1

/-- An operation that yields a value in the world that stands, as one that alone may come up. -/
theorem val_ {P : Program} {Q : Exit → Act → World → Prop} {ops : Array Oper} {oi : Oper} {N : Option Tmp} {a : Act} {w : World} {K : Act → World → Prop} (v : Value) (hw : Region.wanted oi (yielded ops a.tmps) = true) (hN : oi.dst = N)
    (hrun : (execOp a.eval oi).run P w = .ok (.value v) w) (h : K (a.put N v) w) : if Region.wanted oi (yielded ops a.tmps) = true then Oper.wp P oi a w K Q else K (a.put N undef) w := by
  rw [if_pos hw]
  subst hN
  unfold Oper.wp
  rw [hrun]
  exact h
end Go.Proofs.Ytcddajdjmlmpdaa.Print
