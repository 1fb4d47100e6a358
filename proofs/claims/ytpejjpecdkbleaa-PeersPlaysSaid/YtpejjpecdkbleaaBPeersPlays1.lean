/- The proof of the statement PeersPlays of the seat, part 1 of 6: the functions that it reaches, as plain functions, with the walks that show it, and what they come to; the last part ends in the row. No condition beyond the statement's own. -/
import Derived.ScopeJumps
import Derived.Control
import Derived.WalkMore
import Derived.Below
import Derived.Deep.Draws
import Derived.Deep.AppendLies
import Derived.Maps.AppendAt
import Derived.OwnWalk
import Derived.Laws.BytesArg
import Derived.Laws.MakeOwn
import Derived.Laws.OwnMore
import Derived.Deep.OwnRows
import Derived.Tactics
import Derived.Lib.ConvBytes
import Derived.Laws.Slices
import Derived.WalkKit
import Derived.KernelRfl
import Derived.RowKit3
import Derived.Deep.LoopGhost
import Derived.Deep.QuietTactic
import Derived.BigQuiet
import Derived.WideLaws
import Derived.Deep.DeepCutAuto
import Derived.Deep.CutBlock
import Derived.Deep.RegionHeld3
import Derived.Laws.Rows
import Derived.Lib.AppendStr
import Derived.ArgAppend
import Derived.Laws.IdiomCopy
import Derived.RowKit
import Derived.OrdersHeld
import Derived.Laws.BitsLemmas
import Derived.Laws.StructEq
import Derived.Test.YtpejjpecdkbleaaProg
import Derived.Deep.Slices
import Derived.ChangeArms
import Derived.OpenShut
import Derived.Test.YtpejjpecdkbleaaRows
import Derived.Test.YtpejjpecdkbleaaChecked
import Derived.JoinedOf
import Derived.IntWalk
import Derived.Deep.RegionLaw
import Derived.RegionTactic
import Derived.StillTailTactics
import Derived.Outline
import Derived.Shelf.GgClosure.Gives
import Derived.Laws.CopyOwn
import Derived.Deep.MidRow
/-! #### Cw -/
/- A label and its gotos, walked as a loop with a ghost number of rounds. -/
namespace Go.Proofs.Ytpejjpecdkbleaa.Print
theorem least_of {p:Nat→Prop} (h:∃ n,p n):∃ n,p n∧∀ m,p m→n≤m:=by
 obtain ⟨n,hn⟩:=h
 induction n using Nat.strongRecOn with
 | _ n ih =>
  by_cases hm:∃ m,m < n∧p m
  ·
   obtain ⟨m,hlt,hp⟩:=hm
   exact ih m hlt hp
  ·
   exact ⟨n,hn,fun m hp=>Nat.le_of_not_lt fun hlt=>hm ⟨m,hlt,hp⟩⟩
theorem wp_scope_ghost {P:Program} {a:Act} {w:World} {Q:Exit→Act→World→Prop} {c B:Code} (l:Nat) (R:Nat→Act→World→Prop) (hf:findLabel c l=some (Code.seq Code.skip B))
  (round:∀ g a w,R g a w→B.wp P (Exit.jump l (fun a' w'=>∃ g',g' < g∧R g' a' w') Q) a w)
  (first:(∀ g a w,R g a w→B.wp P (Exit.jump l (fun a' w'=>∃ g',R g' a' w') Q) a w)→c.wp P (Exit.jump l (fun a' w'=>∃ g',R g' a' w') Q) a w):(Code.scope c).wp P Q a w:=by
 classical
 have mono:∀ g a w,R g a w→B.wp P (Exit.jump l (fun a' w'=>∃ g',R g' a' w') Q) a w:=by
  intro g a w h
  refine wp_mono (round g a w h) ?_
  intro e a1 w1 h1
  cases e with
  | goto l' =>
   obtain ⟨e,g',_,h2⟩:=h1
   exact ⟨e,g',h2⟩
  | _=>exact h1
 refine wp_scope_jumps l (fun a w=>∃ g,R g a w) (fun a w=>if h:∃ g,R g a w then Classical.choose (least_of h) else 0) hf (first mono) ?_
 intro a w h
 have hR:=(Classical.choose_spec (least_of h)).1
 have h1:=round _ a w hR
 refine wp_seq (wp_skip ?_)
 refine wp_mono h1 ?_
 intro e a1 w1 h1
 cases e with
 | goto l' =>
  obtain ⟨e,g',hlt,h2⟩:=h1
  refine ⟨e,⟨g',h2⟩,?_⟩
  have hex:∃ g,R g a1 w1:=⟨g',h2⟩
  rw [dif_pos hex,dif_pos h]
  exact Nat.lt_of_le_of_lt ((Classical.choose_spec (least_of hex)).2 _ h2) hlt
 | _=>exact h1
/-- An operation that yields a value in the world that stands, as one that alone may come up. -/
theorem val_ {P:Program} {Q:Exit→Act→World→Prop} {ops:Array Oper} {oi:Oper} {N:Option Tmp} {a:Act} {w:World} {K:Act→World→Prop} (v:Value) (hw:Region.wanted oi (yielded ops a.tmps)=true) (hN:oi.dst=N)
  (hrun:(execOp a.eval oi).run P w=.ok (.value v) w) (h:K (a.put N v) w):if Region.wanted oi (yielded ops a.tmps)=true then Oper.wp P oi a w K Q else K (a.put N undef) w:=by
 rw [if_pos hw]
 subst hN
 unfold Oper.wp
 rw [hrun]
 exact h
end Go.Proofs.Ytpejjpecdkbleaa.Print
/-! #### WWords -/
set_option linter.unusedVariables false
set_option linter.unusedSimpArgs false
namespace Go.Proofs.YtpejjpecdkbleaaW.PrintWords
open Go.RowKit
/-- A fact that the walk's simp doesn't look into. -/
structure Aside0 (p:Prop):Prop where mk :: (out:p)
/-- The world is the old one, some orders having been drawn. -/
structure Drawn0 (w w':World):Prop where mk :: (out:∃ n,w'=w.drewN n)
theorem Drawn0.refl (w:World):Drawn0 w w:=⟨⟨0,rfl⟩⟩
theorem Drawn0.step {w w':World} (h:Drawn0 w w') (n:Nat):Drawn0 w (w'.drewN n):=by
 obtain ⟨m,rfl⟩:=h
 exact ⟨⟨m+n,World.drewN_drewN ..⟩⟩
theorem Drawn0.grown {w w':World} (h:Drawn0 w w'):Grown w w':=by
 obtain ⟨n,rfl⟩:=h
 induction n with
 | zero=>exact Grown.refl _
 | succ n ih=>rw [← World.drew_drewN];exact Grown.drew ih
theorem Drawn0.below {w w':World} (h:Drawn0 w w'):Below w.heap.size w w':=by
 obtain ⟨n,rfl⟩:=h
 induction n with
 | zero=>exact Below.refl _ _
 | succ n ih=>rw [← World.drew_drewN];exact ih.drew
/-! ### 1. Values and lists -/
def rd (xs:List Int) (i:Int):Int:=xs.getD i.toNat 0
/-! ### 2. The world -/
theorem below_alloc {w W:World} (h:Below w.heap.size w W) (o:Obj):Below w.heap.size w (W.alloc o):=h.alloc h.size o
theorem below_drew {B:Nat} {w W:World} (h:Below B w W):Below B w W.drew:=⟨h.os,h.tape,h.output,h.size,h.block⟩
theorem pw_below_drewN {B:Nat} {w W:World} (h:Below B w W) (n:Nat):Below B w (W.drewN n):=⟨h.os,h.tape,h.output,h.size,h.block⟩
theorem below_then {B:Nat} {w w1 w2:World} (h:Below B w w1) (hB:B≤w1.heap.size) (k:Below w1.heap.size w1 w2):Below B w w2 :=
 h.trans ⟨k.os,k.tape,k.output,k.size,fun i hi=>k.block i (Nat.lt_of_lt_of_le hi hB)⟩
theorem grown_of_below {w w1:World} (h:Below w.heap.size w w1) (row:Option Nat):w.grownBy w1 row:=⟨h.os,h.tape,h.output,h.size,fun i hi _=>h.block i hi⟩
theorem pw_cell_below {w w1:World} (h:Below w.heap.size w w1) {a:Addr} {v:Value} (hc:w.cell? a=some v):w1.cell? a=some v:=(h.cell (World.block_lt_of_cell? w a hc)).trans hc
/-! ### 3. A slice of whole numbers that is read; nil, empty and other slices alike -/
def ReadsInt (w:World) (k:IntKind) (A:Option Addr) (n:Nat) (xs:List Int):Prop :=
 xs.length=n∧n≤9223372036854775807∧(0 < n→∃ ad,A=some ad∧∀ j,j < n→w.cell? (ad.add j)=some (.int k (xs.getD j 0)))
theorem ReadsInt.at_ {w:World} {k:IntKind} {A:Option Addr} {n:Nat} {xs:List Int} (h:ReadsInt w k A n xs) (i:Int) (h0:0≤i) (h1:i < n):∃ ad,A=some ad∧w.cell? (ad.add i.toNat)=some (.int k (rd xs i)):=by
 obtain ⟨ad,e,hc⟩:=h.2.2 (by omega)
 exact ⟨ad,e,hc _ (by omega)⟩
theorem ReadsInt.below {w w1:World} {k:IntKind} {A:Option Addr} {n:Nat} {xs:List Int} (h:ReadsInt w k A n xs) (hb:Below w.heap.size w w1):ReadsInt w1 k A n xs :=
 ⟨h.1,h.2.1,fun hn=>by
  obtain ⟨ad,e,hc⟩:=h.2.2 hn
  exact ⟨ad,e,fun j hj=>pw_cell_below hb (hc j hj)⟩⟩
/-! ### 4. A row of the call's own -/
theorem own_nil (W:World) (base:Nat) (e:TypeId) (size:Nat):W.ownsRow base e size (.slice none 0 0) 0 []:=⟨by simp,.inl ⟨rfl,rfl⟩⟩
theorem own_base {w:World} {base:Nat} {e:TypeId} {size n:Nat} {v:Value} {xs:List Value} (h:w.ownsRow base e size v n xs) (k:Nat) (hk:v.ownBlock=some k):base≤k:=by
 rcases h.2 with ⟨rfl,_⟩|⟨g,cap,cur,rfl,hb,_⟩
 ·
  simp [Value.ownBlock] at hk
 ·
  have:g=k:=by simpa [Value.ownBlock] using hk
  omega
theorem own_lt {w:World} {base:Nat} {e:TypeId} {size n:Nat} {v:Value} {xs:List Value} (h:w.ownsRow base e size v n xs) (k:Nat) (hk:v.ownBlock=some k):k < w.heap.size:=by
 rcases h.2 with ⟨rfl,_⟩|⟨g,cap,cur,rfl,hb,hh,_⟩
 ·
  simp [Value.ownBlock] at hk
 ·
  have:g=k:=by simpa [Value.ownBlock] using hk
  subst this
  exact (Array.getElem?_eq_some_iff.1 hh).1
theorem pw_own_below {w w1:World} {base:Nat} {e:TypeId} {size n:Nat} {v:Value} {xs:List Value} (h:w.ownsRow base e size v n xs) (hb:Below w.heap.size w w1):w1.ownsRow base e size v n xs :=
 h.kept (grown_of_below hb none) (by cases v.ownBlock <;> simp)
/-- What is written is another row: this one lives on. -/
theorem own_other {w w1:World} {base:Nat} {e:TypeId} {size n:Nat} {v:Value} {xs:List Value} (h:w.ownsRow base e size v n xs) {row:Option Nat} (hg:w.grownBy w1 row) (hne:v.ownBlock=none∨v.ownBlock≠row):w1.ownsRow base e size v n xs:=h.kept hg hne
/-- The shape of whatever is owned. -/
theorem own_slice {w:World} {base n:Nat} {e:TypeId} {size:Nat} {v:Value} {xs:List Value} (h:w.ownsRow base e size v n xs):∃ A c,v=.slice A n c:=by
 rcases h.2 with ⟨rfl,rfl⟩|⟨g,cap,cur,rfl,_⟩
 ·
  exact ⟨none,0,rfl⟩
 ·
  exact ⟨_,cap,rfl⟩
/-! ### 5. append(v, x): behind 'at_builtin'; the goal's world is 'W.alloc' of the variadic's box -/
section
variable {P:Program} {ops:Array Oper} {rest:List Oper} {o:Oper} {a:Act} {Q:Exit→Act→World→Prop}
end
/-! ### 6. make([]T, n), n an Int; a literal -/
section
variable {P:Program}
end
/-! ### 7. v[i] read and v[i] = x, v a row of the call's own: 'obtain ⟨g, cap, rfl, hgb, hgl⟩ := HO.out.form (by omega)' first -/
/-! ### 8. append(v, ys...): ys a slice that is read, nil let in; behind 'at_builtin' -/
section
variable {P:Program} {ops:Array Oper} {rest:List Oper} {o:Oper} {a:Act} {Q:Exit→Act→World→Prop}
end
/-! ### 9. []byte(s): a slice that is read (its row bears a conversion's mark: no row of one's own); cuts of a slice that is read -/
/-- 'xs[:k]' and 'xs[k:]' of a slice that is read; the address of the second as_ the walk has it. -/
theorem ReadsInt.take_ {w:World} {k:IntKind} {A:Option Addr} {n:Nat} {xs:List Int} (h:ReadsInt w k A n xs) (i:Nat) (hi:i≤n):ReadsInt w k A i (xs.take i):=by
 refine ⟨by rw [List.length_take,h.1];omega,by have:=h.2.1;omega,fun hp=>?_⟩
 obtain ⟨ad,e,hc⟩:=h.2.2 (by omega)
 refine ⟨ad,e,fun j hj=>?_⟩
 rw [hc j (by omega)]
 simp [List.getD_eq_getElem?_getD,hj]
/-! ### 10. Rounds: more rounds give the same answer; what ends gives a number of rounds -/
/-- Where the first answers, the second answers the same. -/
def LeO {α:Type} (a b:Option α):Prop:=∀ r,a=some r→b=some r
theorem LeO.refl {α:Type} (a:Option α):LeO a a:=fun _ h=>h
theorem LeO.none {α:Type} (b:Option α):LeO Option.none b:=fun _ h=>by cases h
theorem LeO.trans {α:Type} {a b c:Option α} (h:LeO a b) (k:LeO b c):LeO a c:=fun r hr=>k r (h r hr)
theorem LeO.ite {α:Type} {c:Prop} [Decidable c] {a a' b b':Option α} (h:LeO a a') (k:LeO b b'):LeO (if c then a else b) (if c then a' else b'):=by
 split
 ·
  exact h
 ·
  exact k
theorem LeO.bind {α β:Type} {a a':Option α} {f f':α→Option β} (h:LeO a a') (k:∀ x,LeO (f x) (f' x)):LeO (a.bind f) (a'.bind f'):=by
 intro r hr
 obtain ⟨x,hx,hf⟩:=Option.bind_eq_some_iff.1 hr
 exact Option.bind_eq_some_iff.2 ⟨x,h x hx,k x r hf⟩
theorem LeO.map {α β:Type} {a a':Option α} (f:α→β) (h:LeO a a'):LeO (a.map f) (a'.map f):=by
 intro r hr
 obtain ⟨x,hx,hf⟩:=Option.map_eq_some_iff.1 hr
 exact Option.map_eq_some_iff.2 ⟨x,h x hx,hf⟩
theorem more_rounds {α:Type} {g:Nat→Option α} (h:∀ k,LeO (g k) (g (k+1))) (k:Nat):∀ j,LeO (g k) (g (k+j))
 | 0=>LeO.refl _
 | j+1=>(more_rounds h k j).trans (h (k+j))
theorem at_rounds {α:Type} {g:Nat→Option α} (h:∀ k,LeO (g k) (g (k+1))) {k k':Nat} (hk:k≤k') {r:α} (hr:g k=some r):g k'=some r:=by
 have:=more_rounds h k (k' - k) r hr
 rwa [Nat.add_sub_cancel' hk] at this
/-! ### 11. Rows of elements of several cells (structs): read, made. R: what an element's cells say ('RepItem w': printed for each type) -/
def Reps {α:Type} (R:α→List Value→Prop) (size:Nat) (ps:List α) (cs:List Value):Prop :=
 cs.length=ps.length * size∧∀ j p,ps[j]?=some p→R p ((cs.drop (j * size)).take size)
theorem Reps.none {α:Type} (R:α→List Value→Prop) (size:Nat):Reps R size [] []:=⟨by simp,fun j p h=>by simp at h⟩
theorem Reps.snoc {α:Type} {R:α→List Value→Prop} {size:Nat} {ps:List α} {cs c:List Value} {p:α} (h:Reps R size ps cs) (hp:R p c) (hc:c.length=size):Reps R size (ps ++ [p]) (cs ++ c):=by
 refine ⟨by rw [List.length_append,h.1,hc,List.length_append,List.length_singleton,Nat.add_mul,Nat.one_mul],fun j q hq=>?_⟩
 rcases Nat.lt_or_ge j ps.length with hj|hj
 ·
  rw [List.getElem?_append_left hj] at hq
  have h1:j * size+size≤cs.length:=by rw [h.1,← Nat.succ_mul];exact Nat.mul_le_mul_right _ hj
  have h2:=h.2 j q hq
  rw [List.drop_append_of_le_length (by omega),List.take_append_of_le_length (by rw [List.length_drop];omega)]
  exact h2
 ·
  have hj':j=ps.length:=by
   have:=(List.getElem?_eq_some_iff.1 hq).1
   rw [List.length_append,List.length_singleton] at this
   omega
  subst hj'
  have hq':p=q:=by simpa using hq
  subst hq'
  rw [← h.1,List.drop_left,← hc,List.take_length]
  exact hp
theorem Reps.imp_ {α:Type} {R R':α→List Value→Prop} {size:Nat} {ps:List α} {cs:List Value} (h:Reps R size ps cs) (hR:∀ p c,R p c→R' p c):Reps R' size ps cs:=⟨h.1,fun j p hj=>hR _ _ (h.2 j p hj)⟩
def ReadsRow {α:Type} (R:α→List Value→Prop) (size:Nat) (w:World) (A:Option Addr) (n:Nat) (ps:List α):Prop :=
 ps.length=n∧n≤9223372036854775807∧(0 < n→∃ ad,A=some ad∧∀ j p,ps[j]?=some p→∃ c,c.length=size∧R p c∧∀ i u,c[i]?=some u→w.cell? (ad.add (j * size+i))=some u)
theorem ReadsRow.get_ {α:Type} {R:α→List Value→Prop} {size:Nat} {w:World} {A:Option Addr} {n:Nat} {ps:List α} (h:ReadsRow R size w A n ps) (d:α) (i:Int) (h0:0≤i) (h1:i < n) :
  ∃ ad c,A=some ad∧c.length=size∧R (ps.getD i.toNat d) c∧∀ j u,c[j]?=some u→w.cell? (ad.add (i.toNat * size+j))=some u:=by
 obtain ⟨ad,e,hc⟩:=h.2.2 (by omega)
 have hl:i.toNat < ps.length:=by have:=h.1;omega
 obtain ⟨c,hs,hr,hcell⟩:=hc i.toNat _ (List.getElem?_eq_getElem hl)
 refine ⟨ad,c,e,hs,?_,hcell⟩
 rw [List.getD_eq_getElem?_getD,List.getElem?_eq_getElem hl]
 exact hr
theorem ReadsRow.imp_ {α:Type} {R R':α→List Value→Prop} {size:Nat} {w w1:World} {A:Option Addr} {n:Nat} {ps:List α} (h:ReadsRow R size w A n ps) (hb:Below w.heap.size w w1) (hR:∀ p c,R p c→R' p c):ReadsRow R' size w1 A n ps :=
 ⟨h.1,h.2.1,fun hn=>by
  obtain ⟨ad,e,hc⟩:=h.2.2 hn
  refine ⟨ad,e,fun j p hj=>?_⟩
  obtain ⟨c,hs,hr,hcell⟩:=hc j p hj
  exact ⟨c,hs,hR _ _ hr,fun i u hu=>pw_cell_below hb (hcell i u hu)⟩⟩
theorem own_reads_row {α:Type} {R:α→List Value→Prop} {w:World} {base n size:Nat} {e:TypeId} {v:Value} {ps:List α} {cs:List Value} (h:w.ownsRow base e size v n cs) (hR:Reps R size ps cs) (hn:ps.length=n) :
  ∃ A c,v=.slice A n c∧ReadsRow R size w A n ps:=by
 rcases Nat.eq_zero_or_pos n with h0|h0
 ·
  rcases h.2 with ⟨rfl,rfl⟩|⟨g,cap,cur,rfl,_⟩
  ·
   exact ⟨none,0,rfl,hn,by omega,fun hp=>absurd hp (by omega)⟩
  ·
   exact ⟨_,cap,rfl,hn,by omega,fun hp=>absurd hp (by omega)⟩
 ·
  obtain ⟨g,cap,rfl,_,_⟩:=h.form h0
  have hm:n≤9223372036854775807:=by
   rcases h.2 with ⟨_,h1⟩|⟨g',cap',cur,he,_,_,h1,h2,_⟩
   ·
    omega
   ·
    simp only [maxLen] at h2
    omega
  refine ⟨_,cap,rfl,hn,hm,fun _=>⟨_,rfl,fun j p hj=>⟨(cs.drop (j * size)).take size,?_,hR.2 j p hj,fun i u hu=>?_⟩⟩⟩
  ·
   have hjl:=(List.getElem?_eq_some_iff.1 hj).1
   have h1:j * size+size≤cs.length:=by rw [hR.1,← Nat.succ_mul];exact Nat.mul_le_mul_right _ hjl
   rw [List.length_take,List.length_drop]
   omega
  ·
   refine h.cells (g:=g) rfl _ u ?_
   rw [List.getElem?_take] at hu
   split at hu
   ·
    rw [List.getElem?_drop] at hu
    exact hu
   ·
    cases hu
/-- A field's address as_ the walk spells it. -/
theorem add_field (ad:Addr) (m j:Nat) (hj:0 < j):ad.add (m+j)=⟨(ad.add m).block,(ad.add m).off+j,none⟩:=by
 unfold Addr.add
 by_cases hm:m=0
 ·
  subst hm
  simp [Nat.ne_of_gt hj]
 ·
  simp [hm,Nat.add_assoc]
section
variable {P:Program} {ops:Array Oper} {rest:List Oper} {o:Oper} {a:Act} {Q:Exit→Act→World→Prop}
/-- append(v, x), x of several cells; behind 'at_builtin'; the goal's world is 'W.alloc' of the variadic's box. -/
theorem print_append_cells {w0 W:World} (base:Nat) (hgd:o.guard=none) (s x:Operand) (t e:TypeId) (z:Value) (size bytes:Nat)
  (ho:o.op=.call { callee:=.builtin .append,args:=#[s,x],argTypes:=#[t,t] })
  (ht:P.underlying t=some (.slice e)) (hinfo:(P.info? e).map (fun i=>(i.zero,i.size,i.bytes))=some (some z,size,bytes)) (hz:z.cells.size=size) (hs0:0 < size) (hb0:0 < bytes)
  (v:Value) (n:Nat) (xs ys:List Value) (hs:a.eval s=v) (hx:a.eval x=.slice (some ⟨W.heap.size,0,none⟩) 1 1) (hys:ys.length=size) (h1:∀ u∈ys,u.oneCell'=true)
  (HO:W.ownsRow base e size v n xs) (HB:Below base w0 W) (hbase:base≤W.heap.size) (hl:(n+1) * bytes≤140737488355328)
  (h:∀ v1 w1,w1.ownsRow base e size v1 (n+1) (xs ++ ys)→Below base w0 w1→W.grownBy w1 v.ownBlock→(v1.ownBlock=v.ownBlock∨∃ b,v1.ownBlock=some b∧W.heap.size≤b)→wpList P ops Q rest (a.put o.dst v1) w1) :
  wpList P ops Q (o :: rest) a (W.alloc (.cells ys.toArray e)):=by
 obtain ⟨i0,hi,hzz⟩:=Option.map_eq_some_iff.1 hinfo
 simp only [Prod.mk.injEq] at hzz
 obtain ⟨hz0,hz1,hz2⟩:=hzz
 have hlen:n+1≤140737488355328:=Nat.le_trans (Nat.le_mul_of_pos_right _ hb0) hl
 refine wpList_append_own_at (W.alloc (.cells ys.toArray e)) hgd s x t ho base e i0 z size bytes ht hi hz0 hz1 hz2 hz hs0 v n xs hs (HO.alloc _) ⟨W.heap.size,0,none⟩ 1 1 ys hx (by rw [hys];simp)
  (by simpa using World.news_of_block (cs:=ys.toArray) (t:=e) (fr:=(0,0)) (heap_alloc_new W (.cells ys.toArray e))) h1 (by simp only [maxLen];omega) hl (by simp;omega) ?_
 intro v1 w1 hown hg _ hat
 refine h v1 w1 hown ((HB.alloc hbase _).grown hg (by simp;omega) (own_base HO)) (World.grownBy.trans (World.grownBy_alloc W _ _) hg) ?_
 rcases hat with hat|hat
 ·
  exact .inl hat
 ·
  exact .inr ⟨_,hat,by simp⟩
end
/-! ### 12. A block of one's own that is a state: its cells, what a store leaves -/
theorem own_ne {w:World} {base:Nat} {e t:TypeId} {size n g:Nat} {v:Value} {xs:List Value} {cs:Array Value} (h:w.ownsRow base e size v n xs) (hg:w.heap[g]?=some (.cells cs t (0,0))) (hne:e≠t):some g≠v.ownBlock:=by
 rcases h.2 with ⟨rfl,_⟩|⟨g',cap,cur,rfl,_,hh,_⟩
 ·
  simp [Value.ownBlock]
 ·
  intro he
  have:g=g':=by simpa [Value.ownBlock] using he
  subst this
  rw [hg] at hh
  injection hh with hh
  injection hh with _ ht
  exact hne ht.symm
theorem own_setCell {w:World} {base:Nat} {e:TypeId} {size n:Nat} {v:Value} {xs:List Value} (h:w.ownsRow base e size v n xs) {p:Addr} (hne:some p.block≠v.ownBlock) (u:Value):(w.setCell p u).ownsRow base e size v n xs:=by
 obtain ⟨h1,h2⟩:=h
 refine ⟨h1,?_⟩
 rcases h2 with h2|⟨g,cap,cur,rfl,hg,hh,r⟩
 ·
  exact .inl h2
 ·
  exact .inr ⟨g,cap,cur,rfl,hg,by rw [Below.heap_setCell _ _ _ _ (fun e=>hne (by rw [e];rfl))];exact hh,r⟩
theorem blk_set {w:World} {g:Nat} {t:TypeId} {cs:Array Value} (h:w.heap[g]?=some (.cells cs t (0,0))) (i:Nat) (u:Value):(w.setCell ⟨g,i,none⟩ u).heap[g]?=some (.cells (cs.setIfInBounds i u) t (0,0)):=by
 simp [World.setCell,Array.getElem?_modify,h]
theorem blk_far {w:World} {g:Nat} {t:TypeId} {cs:Array Value} (h:w.heap[g]?=some (.cells cs t (0,0))) {p:Addr} (hp:g≠p.block) (u:Value):(w.setCell p u).heap[g]?=some (.cells cs t (0,0)):=(Below.heap_setCell w p u g hp).trans h
theorem blk_lt {w:World} {g:Nat} {o:Obj} (h:w.heap[g]?=some o):g < w.heap.size:=(Array.getElem?_eq_some_iff.1 h).1
theorem blk_cell {w:World} {g:Nat} {t:TypeId} {cs:Array Value} (h:w.heap[g]?=some (.cells cs t (0,0))) (i:Nat):w.cell? ⟨g,i,none⟩=cs[i]?:=cell_of_row w g i cs t (0,0) h
theorem blk_frozen {w:World} {g:Nat} {t:TypeId} {cs:Array Value} (h:w.heap[g]?=some (.cells cs t (0,0))) (i:Nat):w.frozen? ⟨g,i,none⟩=false:=by simp [World.frozen?,h]
theorem blk_grown {w w1:World} {g:Nat} {o:Obj} {row:Option Nat} (h:w.heap[g]?=some o) (hg:w.grownBy w1 row) (hne:some g≠row):w1.heap[g]?=some o:=(hg.block g (blk_lt h) hne).trans h
theorem blk_ne {w:World} {g g':Nat} {t t':TypeId} {cs cs':Array Value} (h:w.heap[g]?=some (.cells cs t (0,0))) (h':w.heap[g']?=some (.cells cs' t' (0,0))) (hne:t≠t'):g≠g':=by
 rintro rfl
 rw [h] at h'
 injection h' with h'
 injection h' with _ ht
 exact hne ht
/-! ### 13. Two states at once: what a call on the state at block g (its row before: 'row') has turned -/
def KeepBut (w w':World) (g:Nat) (row:Option Nat):Prop:=w.heap.size≤w'.heap.size∧∀ i,i < w.heap.size→i≠g→some i≠row→w'.heap[i]?=w.heap[i]?
theorem KeepBut.refl (w:World) (g:Nat) (row:Option Nat):KeepBut w w g row:=⟨Nat.le_refl _,fun _ _ _ _=>rfl⟩
theorem KeepBut.of_grown {w w1:World} {row:Option Nat} (h:w.grownBy w1 row) (g:Nat):KeepBut w w1 g row:=⟨h.size,fun i hi _ hr=>h.block i hi hr⟩
theorem KeepBut.of_below {w w1:World} (h:Below w.heap.size w w1) (g:Nat) (row:Option Nat):KeepBut w w1 g row:=⟨h.size,fun i hi _ _=>h.block i hi⟩
theorem KeepBut.set_ {w w1:World} {g:Nat} {row:Option Nat} (h:KeepBut w w1 g row) (j:Nat) (u:Value):KeepBut w (w1.setCell ⟨g,j,none⟩ u) g row :=
 ⟨by simpa [World.setCell] using h.1,fun i hi hg hr=>(Below.heap_setCell w1 ⟨g,j,none⟩ u i hg).trans (h.2 i hi hg hr)⟩
theorem KeepBut.trans {w w1 w2:World} {g:Nat} {row row1:Option Nat} (h:KeepBut w w1 g row) (k:KeepBut w1 w2 g row1) (hr:row1=row∨∃ b,row1=some b∧w.heap.size≤b):KeepBut w w2 g row :=
 ⟨Nat.le_trans h.1 k.1,fun i hi hg hn=>by
  refine (k.2 i (Nat.lt_of_lt_of_le hi h.1) hg ?_).trans (h.2 i hi hg hn)
  rcases hr with rfl|⟨b,rfl,hb⟩
  ·
   exact hn
  ·
   intro e
   injection e with e
   omega⟩
/-- Another block, another row: they live on. -/
theorem KeepBut.blk {w w1:World} {g g':Nat} {row:Option Nat} {o:Obj} (h:KeepBut w w1 g row) (hb:w.heap[g']?=some o) (hg:g'≠g) (hr:some g'≠row):w1.heap[g']?=some o:=(h.2 g' (blk_lt hb) hg hr).trans hb
theorem KeepBut.own {w w1:World} {g:Nat} {row:Option Nat} {base:Nat} {e:TypeId} {size n:Nat} {v:Value} {xs:List Value} (h:KeepBut w w1 g row) (ho:w.ownsRow base e size v n xs) (hg:v.ownBlock≠some g) (hr:v.ownBlock=none∨v.ownBlock≠row):w1.ownsRow base e size v n xs:=by
 obtain ⟨h1,h2⟩:=ho
 refine ⟨h1,?_⟩
 rcases h2 with h2|⟨b,cap,cur,rfl,hb,hh,r⟩
 ·
  exact .inl h2
 ·
  refine .inr ⟨b,cap,cur,rfl,hb,h.blk hh ?_ ?_,r⟩
  ·
   intro e
   exact hg (by rw [← e];rfl)
  ·
   rcases hr with hr|hr
   ·
    simp [Value.ownBlock] at hr
   ·
    exact hr
/-! ### 10b. From some number of rounds on -/
def Ev {α:Type} (g:Nat→Option α) (r:α):Prop:=∃ K,∀ k,K≤k→g k=some r
theorem Ev.of {α:Type} {g:Nat→Option α} {r:α} (hg:∀ k,LeO (g k) (g (k+1))) {k:Nat} (h:g k=some r):Ev g r:=⟨k,fun _ hk=>at_rounds hg hk h⟩
theorem Ev.now {α:Type} (r:α):Ev (fun _=>some r) r:=⟨0,fun _ _=>rfl⟩
theorem Ev.rounds {α:Type} {g:Nat→Option α} {r:α} (h:Ev g r):∃ k,g k=some r:=by
 obtain ⟨K,h⟩:=h
 exact ⟨K,h K (Nat.le_refl _)⟩
theorem Ev.bind {α β:Type} {g:Nat→Option α} {f:Nat→α→Option β} {a:α} {r:β} (h:Ev g a) (k:Ev (fun n=>f n a) r):Ev (fun n=>(g n).bind (f n)) r:=by
 obtain ⟨K,h⟩:=h
 obtain ⟨K',k⟩:=k
 refine ⟨max K K',fun n hn=>?_⟩
 have h1:=h n (by omega)
 have h2:=k n (by omega)
 simp only [h1,Option.bind_some]
 exact h2
/-- One round of a loop. -/
theorem Ev.step {α:Type} {g f:Nat→Option α} {r:α} (h:∀ k,g (k+1)=f k) (k:Ev f r):Ev g r:=by
 obtain ⟨K,k⟩:=k
 refine ⟨K+1,fun n hn=>?_⟩
 obtain ⟨m,rfl⟩:∃ m,n=m+1:=⟨n - 1,by omega⟩
 rw [h]
 exact k m (by omega)
theorem Ev.congr {α:Type} {g f:Nat→Option α} {r:α} (h:∀ k,g k=f k) (k:Ev f r):Ev g r:=by
 obtain ⟨K,k⟩:=k
 exact ⟨K,fun n hn=>(h n).trans (k n hn)⟩
/-! ### 14. append as_ one step of a region that draws its order: for 'go_region_law' (and a region walked by hand) -/
section
variable {P:Program} {ops:Array Oper} {o:Oper} {a:Act} {Q:Exit→Act→World→Prop} {K:Act→World→Prop}
end
/-! ### 15. A row's base may be lowered -/
theorem own_weaken {w:World} {base base':Nat} {e:TypeId} {size n:Nat} {v:Value} {xs:List Value} (h:w.ownsRow base e size v n xs) (hb:base'≤base):w.ownsRow base' e size v n xs:=by
 obtain ⟨h1,h2⟩:=h
 refine ⟨h1,?_⟩
 rcases h2 with h2|⟨g,cap,cur,rfl,hg,r⟩
 ·
  exact .inl h2
 ·
  exact .inr ⟨g,cap,cur,rfl,Nat.le_trans hb hg,r⟩
/-! ### 16. Parts 3 to 9 for ANY element of one cell: 'enc' (Value.int k, Value.string, Value.bool), a default 'd' -/
section
variable {α:Type} {enc:α→Value} {d:α}
def encs (enc:α→Value) (xs:List α):List Value:=xs.map enc
def rdOf (d:α) (xs:List α) (i:Int):α:=xs.getD i.toNat d
theorem encs_length (xs:List α):(encs enc xs).length=xs.length:=by simp [encs]
def ReadsOf (enc:α→Value) (d:α) (w:World) (A:Option Addr) (n:Nat) (xs:List α):Prop :=
 xs.length=n∧n≤9223372036854775807∧(0 < n→∃ ad,A=some ad∧∀ j,j < n→w.cell? (ad.add j)=some (enc (xs.getD j d)))
theorem ReadsOf.at_ {w:World} {A:Option Addr} {n:Nat} {xs:List α} (h:ReadsOf enc d w A n xs) (i:Int) (h0:0≤i) (h1:i < n):∃ ad,A=some ad∧w.cell? (ad.add i.toNat)=some (enc (rdOf d xs i)):=by
 obtain ⟨ad,e,hc⟩:=h.2.2 (by omega)
 exact ⟨ad,e,hc _ (by omega)⟩
theorem ReadsOf.below {w w1:World} {A:Option Addr} {n:Nat} {xs:List α} (h:ReadsOf enc d w A n xs) (hb:Below w.heap.size w w1):ReadsOf enc d w1 A n xs :=
 ⟨h.1,h.2.1,fun hn=>by
  obtain ⟨ad,e,hc⟩:=h.2.2 hn
  exact ⟨ad,e,fun j hj=>pw_cell_below hb (hc j hj)⟩⟩
theorem ReadsOf.take_ {w:World} {A:Option Addr} {n:Nat} {xs:List α} (h:ReadsOf enc d w A n xs) (i:Nat) (hi:i≤n):ReadsOf enc d w A i (xs.take i):=by
 refine ⟨by rw [List.length_take,h.1];omega,by have:=h.2.1;omega,fun hp=>?_⟩
 obtain ⟨ad,e,hc⟩:=h.2.2 (by omega)
 refine ⟨ad,e,fun j hj=>?_⟩
 rw [hc j (by omega)]
 simp [List.getD_eq_getElem?_getD,hj]
end
section
variable {α:Type} {P:Program} {ops:Array Oper} {rest:List Oper} {o:Oper} {a:Act} {Q:Exit→Act→World→Prop}
end
/-! ### 17. Rows of one element type held at once: no two share a block -/
/-! ### 18. A block behind a new one; behind a draw -/
theorem blk_alloc {w:World} {g:Nat} {o:Obj} (h:w.heap[g]?=some o) (o':Obj):(w.alloc o').heap[g]?=some o:=(Below.heap_alloc w o' g (blk_lt h)).trans h
theorem blk_drew {w:World} {g:Nat} {o:Obj} (h:w.heap[g]?=some o):w.drew.heap[g]?=some o:=h
theorem blk_drewN {w:World} {g:Nat} {o:Obj} (h:w.heap[g]?=some o) (n:Nat):(w.drewN n).heap[g]?=some o:=h
theorem blk_below {w w1:World} {g:Nat} {o:Obj} (h:w.heap[g]?=some o) (hb:Below w.heap.size w w1):w1.heap[g]?=some o:=(hb.block g (blk_lt h)).trans h
theorem blk_new (w:World) (o:Obj):(w.alloc o).heap[w.heap.size]?=some o:=heap_alloc_new w o
/-! ### 19. Results that lie in memory beside others -/
section
variable {P:Program}
theorem results_ct {fn:Func} {p u:Tmp} {ty:TypeId} (h:fn.results=#[.cell p ty,.tmp u]) (tmps:Array Value) (w:World) (g:Nat) (t:TypeId) (cs:Array Value) (fr:Nat×Nat) (d:TypeDesc)
  (hp:tmps.getD p undef=.pointer (some ⟨g,0,none⟩)) (hg:w.heap[g]?=some (.cells cs t fr))
  (hu:P.underlying ty=some d) (hd:(match d with|.struct _|.array _ _=>true|_=>false)=true) (hi:(P.info? ty).map (·.size)=some cs.size) :
  (results fn tmps).run P w=.ok (.tuple #[.agg cs,tmps.getD u undef]) w:=by
 have hp':tmps[p]?.getD undef=.pointer (some ⟨g,0,none⟩):=by simpa using hp
 simp [results,h,hp',asAddr,run_loadVar_row w g t ty cs fr d hg hu hd hi]
end
/-! ### 20. Rows of elements of any kind: R is what an element's cells say -/
theorem own_le {w:World} {base n m c size:Nat} {e:TypeId} {A:Option Addr} {xs:List Value} (h:w.ownsRow base e size (.slice A m c) n xs):m≤c:=by
 rcases h.2 with ⟨he,_⟩|⟨g,cap,cur,he,_,_,hnc,_⟩
 ·
  injection he with _ h2 h3
  omega
 ·
  injection he with _ h2 h3
  omega
def OwnRow {α:Type} (R:α→List Value→Prop) (e:TypeId) (size:Nat) (w:World) (base:Nat) (v:Value) (ps:List α):Prop :=
 ∃ inner,w.ownsRow base e size v ps.length inner∧Reps R size ps inner
section
variable {α:Type} {R R':α→List Value→Prop} {e:TypeId} {size:Nat} {w w1:World} {base:Nat} {v:Value} {ps:List α}
theorem OwnRow.none_ (R:α→List Value→Prop) (e:TypeId) (size:Nat) (w:World) (base:Nat):OwnRow R e size w base (.slice none 0 0) []:=⟨[],own_nil _ _ _ _,Reps.none _ _⟩
theorem OwnRow.imp_ (h:OwnRow R e size w base v ps) (hR:∀ p c,R p c→R' p c):OwnRow R' e size w base v ps:=by
 obtain ⟨inner,ho,hr⟩:=h
 exact ⟨inner,ho,hr.imp_ hR⟩
theorem OwnRow.below (h:OwnRow R e size w base v ps) (hb:Below w.heap.size w w1):OwnRow R e size w1 base v ps:=by
 obtain ⟨inner,ho,hr⟩:=h
 exact ⟨inner,pw_own_below ho hb,hr⟩
theorem OwnRow.other (h:OwnRow R e size w base v ps) {row:Option Nat} (hg:w.grownBy w1 row) (hne:v.ownBlock=none∨v.ownBlock≠row):OwnRow R e size w1 base v ps:=by
 obtain ⟨inner,ho,hr⟩:=h
 exact ⟨inner,own_other ho hg hne,hr⟩
theorem OwnRow.set_ (h:OwnRow R e size w base v ps) {g:Nat} {t:TypeId} {cells:Array Value} (hb:w.heap[g]?=some (.cells cells t (0,0))) (ht:e≠t) (j:Nat) (u:Value):OwnRow R e size (w.setCell ⟨g,j,none⟩ u) base v ps:=by
 obtain ⟨inner,ho,hr⟩:=h
 exact ⟨inner,own_setCell ho (own_ne ho hb ht) u,hr⟩
theorem OwnRow.keep (h:OwnRow R e size w base v ps) {g:Nat} {t:TypeId} {cells:Array Value} (hb:w.heap[g]?=some (.cells cells t (0,0))) (ht:e≠t) (hk:KeepBut w w1 g none):OwnRow R e size w1 base v ps:=by
 obtain ⟨inner,ho,hr⟩:=h
 exact ⟨inner,hk.own ho (Ne.symm (own_ne ho hb ht)) (by cases v.ownBlock <;> simp),hr⟩
theorem OwnRow.reads (h:OwnRow R e size w base v ps):∃ A c,v=.slice A ps.length c∧ps.length≤c∧ReadsRow R size w A ps.length ps:=by
 obtain ⟨inner,ho,hr⟩:=h
 obtain ⟨A,c,rfl,hrow⟩:=own_reads_row ho hr rfl
 exact ⟨A,c,rfl,own_le ho,hrow⟩
theorem OwnRow.ne_block (h:OwnRow R e size w base v ps) {g:Nat} {t:TypeId} {cells:Array Value} (hb:w.heap[g]?=some (.cells cells t (0,0))) (ht:e≠t):some g≠v.ownBlock:=by
 obtain ⟨inner,ho,hr⟩:=h
 exact own_ne ho hb ht
end
section
variable {P:Program} {ops:Array Oper} {rest:List Oper} {o:Oper} {a:Act} {Q:Exit→Act→World→Prop} {α:Type} {R:α→List Value→Prop}
/-- append(v, x): x's cells are cs. R is that of the world AHEAD; move it over hg ('OwnRow.imp_'). -/
theorem OwnRow.append {w0 W:World} (base:Nat) (hgd:o.guard=none) (s x:Operand) (t e:TypeId) (z:Value) (size bytes:Nat)
  (ho:o.op=.call { callee:=.builtin .append,args:=#[s,x],argTypes:=#[t,t] })
  (ht:P.underlying t=some (.slice e)) (hinfo:(P.info? e).map (fun i=>(i.zero,i.size,i.bytes))=some (some z,size,bytes)) (hz:z.cells.size=size) (hs0:0 < size) (hb0:0 < bytes)
  (v:Value) (ps:List α) (p:α) (cs:List Value) (hs:a.eval s=v) (hx:a.eval x=.slice (some ⟨W.heap.size,0,none⟩) 1 1) (hp:R p cs) (hcs:cs.length=size) (h1:∀ u∈cs,u.oneCell'=true)
  (HO:OwnRow R e size W base v ps) (HB:Below base w0 W) (hbase:base≤W.heap.size) (hl:(ps.length+1) * bytes≤140737488355328)
  (h:∀ v1 w1,OwnRow R e size w1 base v1 (ps ++ [p])→Below base w0 w1→W.grownBy w1 v.ownBlock→(v1.ownBlock=v.ownBlock∨∃ b,v1.ownBlock=some b∧W.heap.size≤b)→wpList P ops Q rest (a.put o.dst v1) w1) :
  wpList P ops Q (o :: rest) a (W.alloc (.cells cs.toArray e)):=by
 obtain ⟨inner,hown,hr⟩:=HO
 refine print_append_cells base hgd s x t e z size bytes ho ht hinfo hz hs0 hb0 v ps.length inner cs hs hx hcs h1 hown HB hbase hl ?_
 intro v1 w1 hown1 hb1 hg1 hat1
 exact h v1 w1 ⟨inner ++ cs,by rw [List.length_append,List.length_singleton];exact hown1,hr.snoc hp hcs⟩ hb1 hg1 hat1
end
section
variable {P:Program} {ops:Array Oper} {o:Oper} {a:Act} {Q:Exit→Act→World→Prop} {K:Act→World→Prop} {α:Type} {R:α→List Value→Prop}
end
/-! ### 21. Cuts of a slice that came in, lengths spelled as_ the lists' -/
section
variable {α:Type} {P:Program}
theorem ReadsOf.len_ {enc:α→Value} {d:α} {w:World} {A:Option Addr} {n:Nat} {xs:List α} (h:ReadsOf enc d w A n xs):ReadsOf enc d w A xs.length xs:=by rw [h.1];exact h
end
/-! ### 22. append([]byte, s...), s a string; behind 'at_builtin'. (No word on where the new row lies: two rows of bytes at once don't go by it.) -/
section
variable {P:Program} {ops:Array Oper} {rest:List Oper} {o:Oper} {a:Act} {Q:Exit→Act→World→Prop}
end
/-! ### 23. KINDS: what a value's cells say, read (K) and made (M), kind by kind; every mover proved once -/
/-- ok: which blocks the rows inside may be ('not the row that is being written'). -/
structure Kd (α:Type) where
 sz:Nat
 E:List Nat
 K:World→α→List Value→Prop
 M:World→Nat→(Nat→Prop)→α→List Value→Prop
 K_len:∀ {w x cs},K w x cs→cs.length=sz
 K_one:∀ {w x cs},K w x cs→∀ u∈cs,u.oneCell'=true
 K_below:∀ {w w1:World} {x cs},Below w.heap.size w w1→K w x cs→K w1 x cs
 K_of_M:∀ {w base ok x cs},M w base ok x cs→K w x cs
 M_mono:∀ {w base ok ok' x cs},(∀ k,ok k→ok' k)→M w base ok x cs→M w base ok' x cs
 M_bound:∀ {w:World} {base ok x cs},M w base ok x cs→M w base (fun k=>ok k∧base≤k∧k < w.heap.size∧∃ q,q∈E∧∃ cells,w.heap[k]?=some (.cells cells q (0,0))) x cs
 M_move:∀ {w w1:World} {base ok x cs},(∀ k,ok k→w1.heap[k]?=w.heap[k]?)→M w base ok x cs→M w1 base ok x cs
 M_lower:∀ {w base base' ok x cs},base'≤base→M w base ok x cs→M w base' ok x cs
theorem own_move {w w1:World} {base:Nat} {e:TypeId} {size n:Nat} {v:Value} {xs:List Value} (h:w.ownsRow base e size v n xs) (hm:∀ k,v.ownBlock=some k→w1.heap[k]?=w.heap[k]?):w1.ownsRow base e size v n xs:=by
 obtain ⟨h1,h2⟩:=h
 refine ⟨h1,?_⟩
 rcases h2 with h2|⟨g,cap,cur,rfl,hg,hh,r⟩
 ·
  exact .inl h2
 ·
  exact .inr ⟨g,cap,cur,rfl,hg,(hm g (by simp [Value.ownBlock])).trans hh,r⟩
theorem own_typed {w:World} {base:Nat} {e:TypeId} {size n:Nat} {v:Value} {xs:List Value} (h:w.ownsRow base e size v n xs) (k:Nat) (hk:v.ownBlock=some k):∃ cells,w.heap[k]?=some (.cells cells e (0,0)):=by
 rcases h.2 with ⟨rfl,_⟩|⟨g,cap,cur,rfl,hg,hh,r⟩
 ·
  simp [Value.ownBlock] at hk
 ·
  have:g=k:=by simpa [Value.ownBlock] using hk
  subst this
  exact ⟨cur,hh⟩
namespace Kd
/-- A row of elements that is read. -/
def C {α:Type} (d:Kd α) (w:World) (A:Option Addr) (n:Nat) (xs:List α):Prop:=ReadsRow (d.K w) d.sz w A n xs
/-- A row of elements (type e) of the call's own; the elements' rows are not this one. -/
def R {α:Type} (d:Kd α) (e:Nat) (w:World) (base:Nat) (ok:Nat→Prop) (v:Value) (xs:List α):Prop :=
 (∀ k,v.ownBlock=some k→ok k)∧OwnRow (d.M w base (fun k=>ok k∧some k≠v.ownBlock)) e d.sz w base v xs
section
variable {α:Type} {d:Kd α} {e:Nat} {w w1:World} {base:Nat} {ok ok':Nat→Prop} {v:Value} {xs:List α}
theorem C_below {A:Option Addr} {n:Nat} (h:d.C w A n xs) (hb:Below w.heap.size w w1):d.C w1 A n xs:=ReadsRow.imp_ h hb (fun _ _ hp=>d.K_below hb hp)
theorem R_nil (d:Kd α) (e:Nat) (w:World) (base:Nat) (ok:Nat→Prop):d.R e w base ok (.slice none 0 0) []:=⟨fun k hk=>by simp [Value.ownBlock] at hk,OwnRow.none_ _ _ _ _ _⟩
theorem R_mono (h:d.R e w base ok v xs) (hok:∀ k,ok k→ok' k):d.R e w base ok' v xs:=⟨fun k hk=>hok k (h.1 k hk),h.2.imp_ (fun _ _ hp=>d.M_mono (fun k hk=>⟨hok k hk.1,hk.2⟩) hp)⟩
theorem R_bound (h:d.R e w base ok v xs):d.R e w base (fun k=>ok k∧base≤k∧k < w.heap.size∧∃ q,q∈e :: d.E∧∃ cells,w.heap[k]?=some (.cells cells q (0,0))) v xs:=by
 obtain ⟨h0,inner,ho,hr⟩:=h
 refine ⟨fun k hk=>?_,inner,ho,hr.imp_ (fun _ _ hp=>d.M_mono (fun k hk=>?_) (d.M_bound hp))⟩
 ·
  obtain ⟨cells,hc⟩:=own_typed ho k hk
  exact ⟨h0 k hk,own_base ho k hk,own_lt ho k hk,e,List.mem_cons_self,cells,hc⟩
 ·
  obtain ⟨⟨h1,h2⟩,h3,h4,q,hq,hc⟩:=hk
  exact ⟨⟨h1,h3,h4,q,List.mem_cons_of_mem _ hq,hc⟩,h2⟩
theorem R_move (h:d.R e w base ok v xs) (hm:∀ k,ok k→w1.heap[k]?=w.heap[k]?):d.R e w1 base ok v xs:=by
 obtain ⟨h0,inner,ho,hr⟩:=h
 exact ⟨h0,inner,own_move ho (fun k hk=>hm k (h0 k hk)),hr.imp_ (fun _ _ hp=>d.M_move (fun k hk=>hm k hk.1) hp)⟩
theorem R_lower {base':Nat} (h:d.R e w base ok v xs) (hb:base'≤base):d.R e w base' ok v xs:=by
 obtain ⟨h0,inner,ho,hr⟩:=h
 exact ⟨h0,inner,own_weaken ho hb,hr.imp_ (fun _ _ hp=>d.M_lower hb hp)⟩
/-- Any mover: what is ok, and a block of w's, stays. -/
theorem R_step (h:d.R e w base ok v xs) (hm:∀ k,ok k→k < w.heap.size→w1.heap[k]?=w.heap[k]?):d.R e w1 base ok v xs :=
 R_mono (R_move (R_bound h) (fun k hk=>hm k hk.1 hk.2.2.1)) (fun _ hk=>hk.1)
theorem M_step {x:α} {cs:List Value} (h:d.M w base ok x cs) (hm:∀ k,ok k→k < w.heap.size→w1.heap[k]?=w.heap[k]?):d.M w1 base ok x cs :=
 d.M_mono (fun _ hk=>hk.1) (d.M_move (fun k hk=>hm k hk.1 hk.2.2.1) (d.M_bound h))
theorem R_below (h:d.R e w base ok v xs) (hb:Below w.heap.size w w1):d.R e w1 base ok v xs:=R_step h (fun k _ hk=>hb.block k hk)
/-- A store into another block. -/
theorem R_far (h:d.R e w base ok v xs) {p:Addr} (hok:∀ k,ok k→k≠p.block) (u:Value):d.R e (w.setCell p u) base ok v xs:=R_step h (fun k ho _=>Below.heap_setCell w p u k (hok k ho))
theorem R_keep (h:d.R e w base ok v xs) {g:Nat} (hk:KeepBut w w1 g none) (hok:∀ k,ok k→k≠g):d.R e w1 base ok v xs:=R_step h (fun k ho hlt=>hk.2 k hlt (hok k ho) (by simp))
/-- By types alone: the rows inside are none of a block of type t. -/
theorem R_types (h:d.R e w base ok v xs) {g t:Nat} {cells:Array Value} (hb:w.heap[g]?=some (.cells cells t (0,0))) (ht:∀ q,q∈e :: d.E→q≠t):d.R e w base (fun k=>ok k∧k≠g) v xs :=
 R_mono (R_bound h) (fun k hk=>⟨hk.1,by
  obtain ⟨_,_,_,q,hq,cells',hc⟩:=hk
  rintro rfl
  rw [hc] at hb
  injection hb with hb
  injection hb with _ hb
  exact ht q hq hb⟩)
theorem R_reads (h:d.R e w base ok v xs):∃ A c,v=.slice A xs.length c∧xs.length≤c∧d.C w A xs.length xs:=by
 obtain ⟨A,c,he,hl,hr⟩:=OwnRow.reads h.2
 exact ⟨A,c,he,hl,hr.imp_ (Below.refl _ _) (fun _ _ hp=>d.K_of_M hp)⟩
theorem R_slice (h:d.R e w base ok v xs):∃ A c,v=.slice A xs.length c:=by
 obtain ⟨A,c,he,_⟩:=R_reads h
 exact ⟨A,c,he⟩
theorem R_own (h:d.R e w base ok v xs):∃ inner,w.ownsRow base e d.sz v xs.length inner:=by
 obtain ⟨_,inner,ho,_⟩:=h
 exact ⟨inner,ho⟩
theorem R_ne (h:d.R e w base ok v xs) {g t:Nat} {cells:Array Value} (hb:w.heap[g]?=some (.cells cells t (0,0))) (ht:e≠t):some g≠v.ownBlock:=OwnRow.ne_block h.2 hb ht
end
/-! #### the kinds -/
def scalar {α:Type} (enc:α→Value) (h1:∀ x,(enc x).oneCell'=true):Kd α where
 sz:=1
 E:=[]
 K:=fun _ x cs=>cs=[enc x]
 M:=fun _ _ _ x cs=>cs=[enc x]
 K_len:=fun h=>by rw [h];rfl
 K_one:=fun h u hu=>by
  rw [h] at hu
  rw [List.mem_singleton.1 hu]
  exact h1 _
 K_below:=fun _ h=>h
 K_of_M:=fun h=>h
 M_mono:=fun _ h=>h
 M_bound:=fun h=>h
 M_move:=fun _ h=>h
 M_lower:=fun _ h=>h
def int (k:IntKind):Kd Int:=scalar (Value.int k) (fun _=>rfl)
def bool:Kd Bool:=scalar Value.bool (fun _=>rfl)
def string:Kd ByteArray:=scalar Value.string (fun _=>rfl)
def slice {α:Type} (e:Nat) (d:Kd α):Kd (List α) where
 sz:=1
 E:=e :: d.E
 K:=fun w xs cs=>∃ A c,cs=[.slice A xs.length c]∧xs.length≤c∧d.C w A xs.length xs
 M:=fun w base ok xs cs=>∃ v,cs=[v]∧d.R e w base ok v xs
 K_len:=by
  rintro w x cs ⟨A,c,rfl,_⟩
  rfl
 K_one:=by
  rintro w x cs ⟨A,c,rfl,_⟩ u hu
  rw [List.mem_singleton.1 hu]
  rfl
 K_below:=by
  rintro w w1 x cs hb ⟨A,c,rfl,hl,hr⟩
  exact ⟨A,c,rfl,hl,C_below hr hb⟩
 K_of_M:=by
  rintro w base ok x cs ⟨v,rfl,h⟩
  obtain ⟨A,c,rfl,hl,hr⟩:=R_reads h
  exact ⟨A,c,rfl,hl,hr⟩
 M_mono:=by
  rintro w base ok ok' x cs hok ⟨v,rfl,h⟩
  exact ⟨v,rfl,R_mono h hok⟩
 M_bound:=by
  rintro w base ok x cs ⟨v,rfl,h⟩
  exact ⟨v,rfl,R_bound h⟩
 M_move:=by
  rintro w w1 base ok x cs hm ⟨v,rfl,h⟩
  exact ⟨v,rfl,R_move h hm⟩
 M_lower:=by
  rintro w base base' ok x cs hb ⟨v,rfl,h⟩
  exact ⟨v,rfl,R_lower h hb⟩
/-- Two in line. -/
def pair {α β:Type} (a:Kd α) (b:Kd β):Kd (α×β) where
 sz:=a.sz+b.sz
 E:=a.E ++ b.E
 K:=fun w x cs=>∃ c0 c1,cs=c0 ++ c1∧a.K w x.1 c0∧b.K w x.2 c1
 M:=fun w base ok x cs=>∃ c0 c1,cs=c0 ++ c1∧a.M w base ok x.1 c0∧b.M w base ok x.2 c1
 K_len:=by
  rintro w x cs ⟨c0,c1,rfl,h0,h1⟩
  rw [List.length_append,a.K_len h0,b.K_len h1]
 K_one:=by
  rintro w x cs ⟨c0,c1,rfl,h0,h1⟩ u hu
  rcases List.mem_append.1 hu with hu|hu
  ·
   exact a.K_one h0 u hu
  ·
   exact b.K_one h1 u hu
 K_below:=by
  rintro w w1 x cs hb ⟨c0,c1,rfl,h0,h1⟩
  exact ⟨c0,c1,rfl,a.K_below hb h0,b.K_below hb h1⟩
 K_of_M:=by
  rintro w base ok x cs ⟨c0,c1,rfl,h0,h1⟩
  exact ⟨c0,c1,rfl,a.K_of_M h0,b.K_of_M h1⟩
 M_mono:=by
  rintro w base ok ok' x cs hok ⟨c0,c1,rfl,h0,h1⟩
  exact ⟨c0,c1,rfl,a.M_mono hok h0,b.M_mono hok h1⟩
 M_bound:=by
  rintro w base ok x cs ⟨c0,c1,rfl,h0,h1⟩
  refine ⟨c0,c1,rfl,a.M_mono ?_ (a.M_bound h0),b.M_mono ?_ (b.M_bound h1)⟩
  ·
   rintro k ⟨h2,h3,h4,q,hq,hc⟩
   exact ⟨h2,h3,h4,q,List.mem_append_left _ hq,hc⟩
  ·
   rintro k ⟨h2,h3,h4,q,hq,hc⟩
   exact ⟨h2,h3,h4,q,List.mem_append_right _ hq,hc⟩
 M_move:=by
  rintro w w1 base ok x cs hm ⟨c0,c1,rfl,h0,h1⟩
  exact ⟨c0,c1,rfl,a.M_move hm h0,b.M_move hm h1⟩
 M_lower:=by
  rintro w base base' ok x cs hb ⟨c0,c1,rfl,h0,h1⟩
  exact ⟨c0,c1,rfl,a.M_lower hb h0,b.M_lower hb h1⟩
/-- A Lean structure by its fields. -/
def iso {α β:Type} (d:Kd α) (f:β→α):Kd β where
 sz:=d.sz
 E:=d.E
 K:=fun w x cs=>d.K w (f x) cs
 M:=fun w base ok x cs=>d.M w base ok (f x) cs
 K_len:=d.K_len
 K_one:=d.K_one
 K_below:=d.K_below
 K_of_M:=d.K_of_M
 M_mono:=d.M_mono
 M_bound:=d.M_bound
 M_move:=d.M_move
 M_lower:=d.M_lower
/-- Nothing is of this kind: where the nesting's depth is used up. -/
def bot {α:Type} (sz:Nat) (E:List Nat):Kd α where
 sz:=sz
 E:=E
 K:=fun _ _ _=>False
 M:=fun _ _ _ _ _=>False
 K_len:=fun h=>h.elim
 K_one:=fun h=>h.elim
 K_below:=fun _ h=>h
 K_of_M:=fun h=>h
 M_mono:=fun _ h=>h
 M_bound:=fun h=>h
 M_move:=fun _ h=>h
 M_lower:=fun _ h=>h
/-- A type nested in itself: nested at most n deep .. -/
def upto {α:Type} (F:Kd α→Kd α) (sz:Nat) (E:List Nat):Nat→Kd α
 | 0=>bot sz E
 | n+1=>F (upto F sz E n)
/-! #### an element of a row that is read; an element appended -/
theorem C_get {α:Type} {d:Kd α} {w:World} {A:Option Addr} {n:Nat} {xs:List α} (h:d.C w A n xs) (z:α) (i:Int) (h0:0≤i) (h1:i < n) :
  ∃ ad c,A=some ad∧c.length=d.sz∧d.K w (xs.getD i.toNat z) c∧∀ j u,c[j]?=some u→w.cell? (ad.add (i.toNat * d.sz+j))=some u:=ReadsRow.get_ h z i h0 h1
/-- What an append leaves: the old elements' rows and the new one's are not the new row's block. -/
theorem R_appended {α:Type} {d:Kd α} {e base:Nat} {ok okp:Nat→Prop} {W w1:World} {v v1:Value} {xs:List α} {p:α} {inner cs:List Value} (h0:∀ k,v.ownBlock=some k→ok k) (hr:Reps (d.M W base (fun k=>ok k∧some k≠v.ownBlock)) d.sz xs inner) (hp:d.M W base okp p cs) (hokp:∀ k,okp k→ok k∧some k≠v.ownBlock) (hfresh:∀ k,W.heap.size≤k→ok k)
  (hown:w1.ownsRow base e d.sz v1 (xs.length+1) (inner ++ cs)) (hg:W.grownBy w1 v.ownBlock) (hat:v1.ownBlock=v.ownBlock∨∃ b,v1.ownBlock=some b∧W.heap.size≤b):d.R e w1 base ok v1 (xs ++ [p]):=by
 have hne:∀ k,some k≠v.ownBlock→k < W.heap.size→some k≠v1.ownBlock:=by
  intro k hk hlt
  rcases hat with hat|⟨b,hb,hle⟩
  ·
   rw [hat];exact hk
  ·
   rw [hb]
   intro he
   injection he with he
   omega
 have step:∀ {q:α} {c:List Value} {o:Nat→Prop},d.M W base o q c→(∀ k,o k→ok k∧some k≠v.ownBlock)→d.M w1 base (fun k=>ok k∧some k≠v1.ownBlock) q c:=by
  intro q c o hq ho
  have h1:=d.M_move (w1:=w1) (fun k hk=>hg.block k hk.2.2.1 (ho k hk.1).2) (d.M_bound hq)
  exact d.M_mono (fun k hk=>⟨(ho k hk.1).1,hne k (ho k hk.1).2 hk.2.2.1⟩) h1
 refine ⟨fun k hk=>?_,inner ++ cs,by rw [List.length_append,List.length_singleton];exact hown,?_⟩
 ·
  rcases hat with hat|⟨b,hb,hle⟩
  ·
   exact h0 k (hat ▸ hk)
  ·
   rw [hb] at hk
   injection hk with hk
   exact hfresh k (by omega)
 ·
  exact (hr.imp_ (fun _ _ hq=>step hq (fun _ hk=>hk))).snoc (step hp hokp) (d.K_len (d.K_of_M hp))
section
variable {P:Program} {ops:Array Oper} {rest:List Oper} {o:Oper} {a:Act} {Q:Exit→Act→World→Prop} {α:Type}
/-- append(v, x), behind 'at_builtin'; the goal's world is 'W.alloc' of the variadic's box; x's cells are cs, made (its rows satisfy okp). hfresh: a block that is new at W is ok. -/
theorem R_append (d:Kd α) {w0 W:World} (base:Nat) (hgd:o.guard=none) (s x:Operand) (t e:TypeId) (z:Value) (bytes:Nat)
  (ho:o.op=.call { callee:=.builtin .append,args:=#[s,x],argTypes:=#[t,t] })
  (ht:P.underlying t=some (.slice e)) (hinfo:(P.info? e).map (fun i=>(i.zero,i.size,i.bytes))=some (some z,d.sz,bytes)) (hz:z.cells.size=d.sz) (hs0:0 < d.sz) (hb0:0 < bytes)
  (v:Value) (xs:List α) (p:α) (cs:List Value) (ok okp:Nat→Prop) (hs:a.eval s=v) (hx:a.eval x=.slice (some ⟨W.heap.size,0,none⟩) 1 1) (hp:d.M W base okp p cs) (hokp:∀ k,okp k→ok k∧some k≠v.ownBlock) (hfresh:∀ k,W.heap.size≤k→ok k)
  (HO:d.R e W base ok v xs) (HB:Below base w0 W) (hbase:base≤W.heap.size) (hl:(xs.length+1) * bytes≤140737488355328)
  (h:∀ v1 w1,d.R e w1 base ok v1 (xs ++ [p])→Below base w0 w1→W.grownBy w1 v.ownBlock→(v1.ownBlock=v.ownBlock∨∃ b,v1.ownBlock=some b∧W.heap.size≤b)→wpList P ops Q rest (a.put o.dst v1) w1) :
  wpList P ops Q (o :: rest) a (W.alloc (.cells cs.toArray e)):=by
 obtain ⟨h0,inner,hown,hr⟩:=HO
 refine print_append_cells base hgd s x t e z d.sz bytes ho ht hinfo hz hs0 hb0 v xs.length inner cs hs hx (d.K_len (d.K_of_M hp)) (d.K_one (d.K_of_M hp)) hown HB hbase hl ?_
 intro v1 w1 hown1 hb1 hg1 hat1
 exact h v1 w1 (R_appended h0 hr hp hokp hfresh hown1 hg1 hat1) hb1 hg1 hat1
end
section
variable {P:Program} {ops:Array Oper} {o:Oper} {a:Act} {Q:Exit→Act→World→Prop} {Kc:Act→World→Prop} {α:Type}
end
theorem reads_of_C {α:Type} {enc:α→Value} {d:α} {h1:∀ x,(enc x).oneCell'=true} {w:World} {A:Option Addr} {n:Nat} {xs:List α} (h:(scalar enc h1).C w A n xs):ReadsOf enc d w A n xs:=by
 refine ⟨h.1,h.2.1,fun hn=>?_⟩
 obtain ⟨ad,e,hc⟩:=h.2.2 hn
 refine ⟨ad,e,fun j hj=>?_⟩
 have hl:j < xs.length:=by have:=h.1;omega
 obtain ⟨c,_,hK,hcell⟩:=hc j _ (List.getElem?_eq_getElem hl)
 have hK':c=[enc xs[j]]:=hK
 subst hK'
 have:=hcell 0 _ rfl
 simpa [scalar,List.getD_eq_getElem?_getD,List.getElem?_eq_getElem hl] using this
end Kd
/-! ### 24. Kinds nested in themselves -/
namespace Kd
/-- F says the more, the more its argument says. -/
structure Mono {α β:Type} (F:Kd α→Kd β):Prop where
 sz:∀ d d':Kd α,d.sz=d'.sz→(F d).sz=(F d').sz
 K:∀ d d':Kd α,d.sz=d'.sz→(∀ w x cs,d.K w x cs→d'.K w x cs)→∀ w x cs,(F d).K w x cs→(F d').K w x cs
 M:∀ d d':Kd α,d.sz=d'.sz→(∀ w base ok x cs,d.M w base ok x cs→d'.M w base ok x cs)→∀ w base ok x cs,(F d).M w base ok x cs→(F d').M w base ok x cs
section
variable {α:Type} {F:Kd α→Kd α} {sz:Nat} {E:List Nat} {hs:∀ n,(upto F sz E n).sz=sz} {hE:∀ n q,q∈(upto F sz E n).E→q∈E}
end
end Kd
/-! ### 25. What is held while another row is written: 'ok' says that its rows are none of that row's block -/
namespace Kd
end Kd
/-! ### 26. Words for a printer that takes every slice by its kind -/
namespace Kd
section
variable {α β:Type} {d:Kd α} {d':Kd β} {e e':Nat} {w w1 W:World} {base b b':Nat} {ok ok' okv oku:Nat→Prop} {v u:Value} {xs:List α} {ys:List β}
theorem R_alloc (h:d.R e w base ok v xs) (o:Obj):d.R e (w.alloc o) base ok v xs:=R_below h (below_alloc (Below.refl _ _) o)
theorem R_drew (h:d.R e w base ok v xs):d.R e w.drew base ok v xs:=R_below h (below_drew (Below.refl _ _))
theorem R_drewN (h:d.R e w base ok v xs) (m:Nat):d.R e (w.drewN m) base ok v xs:=R_below h (pw_below_drewN (Below.refl _ _) m)
theorem C_alloc {A:Option Addr} {n:Nat} (h:d.C w A n xs) (o:Obj):d.C (w.alloc o) A n xs:=C_below h (below_alloc (Below.refl _ _) o)
theorem C_drew {A:Option Addr} {n:Nat} (h:d.C w A n xs):d.C w.drew A n xs:=C_below h (below_drew (Below.refl _ _))
theorem C_drewN {A:Option Addr} {n:Nat} (h:d.C w A n xs) (m:Nat):d.C (w.drewN m) A n xs:=C_below h (pw_below_drewN (Below.refl _ _) m)
theorem C_nil (d:Kd α) (w:World):d.C w none ([]:List α).length []:=⟨rfl,by simp,fun h=>absurd h (Nat.lt_irrefl 0)⟩
theorem R_reads' {A:Option Addr} {n c:Nat} (h:d.R e w base ok (.slice A n c) xs):n=xs.length∧n≤c∧d.C w A xs.length xs:=by
 obtain ⟨A',c',he,hl,hr⟩:=R_reads h
 injection he with h1 h2 h3
 subst h1
 exact ⟨h2,by omega,hr⟩
theorem R_lt (h:d.R e w base ok v xs):∀ k,v.ownBlock=some k→k < w.heap.size:=by
 obtain ⟨inner,ho⟩:=R_own h
 exact own_lt ho
/-- The row's own block is no block that isn't ok. -/
theorem R_away (h:d.R e w base ok v xs) {g:Nat} (hok:∀ k,ok k→k≠g):some g≠v.ownBlock:=fun e=>hok g (h.1 g e.symm) rfl
end
/-! #### scalars -/
section
variable {w W:World} {A:Option Addr} {n:Nat}
theorem at_int {k:IntKind} {xs:List Int} (h:(Kd.int k).C w A n xs) (i:Int) (h0:0≤i) (h1:i < n):∃ ad,A=some ad∧w.cell? (ad.add i.toNat)=some (.int k (rd xs i)) :=
 ReadsOf.at_ (reads_of_C (enc:=Value.int k) (d:=(0:Int)) (h1:=fun _=>rfl) h) i h0 h1
theorem at_bool {xs:List Bool} (h:Kd.bool.C w A n xs) (i:Int) (h0:0≤i) (h1:i < n):∃ ad,A=some ad∧w.cell? (ad.add i.toNat)=some (.bool (rdOf false xs i)) :=
 ReadsOf.at_ (reads_of_C (enc:=Value.bool) (d:=false) (h1:=fun _=>rfl) h) i h0 h1
variable {α:Type} {enc:α→Value} {h1:∀ x,(enc x).oneCell'=true} {e base g cap:Nat} {ok:Nat→Prop} {xs:List α}
end
/-! #### events: a letter for what make and a literal leave -/
section
variable {P:Program} {ops:Array Oper} {rest:List Oper} {o:Oper} {a:Act} {Q:Exit→Act→World→Prop}
theorem event_run {W w1:World} {v:Value} (hgd:o.guard=none) (hrun:(execOp a.eval o).run P W=.ok (.value v) w1) (h:wpList P ops Q rest (a.put o.dst v) w1):wpList P ops Q (o :: rest) a W:=by
 refine wpList_plain hgd fun K hK=>?_
 unfold Oper.wp
 rw [hrun]
 exact hK _ _ h
variable {α:Type}
end
end Kd
/-! ### 27. Cuts of a row of one's own: 'xs = xs[:n]' stays a row (R_take); 'xs = xs[k:]' is a row that begins inside its block (Kd.Q), append goes on it too -/
theorem own_take {w:World} {base n m c size:Nat} {e:TypeId} {A:Option Addr} {xs:List Value} (h:w.ownsRow base e size (.slice A n c) n xs) (hm:m≤n):w.ownsRow base e size (.slice A m c) m (xs.take (m * size)):=by
 obtain ⟨h1,h2⟩:=h
 refine ⟨by rw [List.length_take,h1];exact Nat.min_eq_left (Nat.mul_le_mul_right _ hm),?_⟩
 rcases h2 with ⟨he,h0⟩|⟨g,cap,cur,he,hb,hh,hnc,hcm,hcs,ht⟩
 ·
  injection he with ha _ hc
  subst ha;subst hc
  exact .inl ⟨by rw [show m=0 by omega],by omega⟩
 ·
  injection he with ha _ hc
  subst ha;subst hc
  refine .inr ⟨g,c,cur,rfl,hb,hh,by omega,hcm,hcs,?_⟩
  rw [← ht,List.take_take,Nat.min_eq_left (Nat.mul_le_mul_right _ hm)]
section
variable {P:Program}
end
/-- A row of one's own that may begin inside its block. -/
def QRow (w:World) (base:Nat) (e:TypeId) (size:Nat) (v:Value) (n:Nat) (xs:List Value):Prop :=
 xs.length=n * size ∧
 ((n=0∧∃ A,v=.slice A 0 0∧∀ a,A=some a→base≤a.block∧∃ cur,w.heap[a.block]?=some (.cells cur e (0,0))) ∨
   ∃ g off cap cur,v=.slice (some ⟨g,off * size,none⟩) n cap∧base≤g∧w.heap[g]?=some (.cells cur e (0,0))∧n≤cap∧off+cap≤maxLen∧cur.size=(off+cap) * size∧(cur.toList.drop (off * size)).take (n * size)=xs)
section
variable {w w1:World} {base n size:Nat} {e:TypeId} {v:Value} {xs:List Value}
theorem q_of_own (h:w.ownsRow base e size v n xs):QRow w base e size v n xs:=by
 obtain ⟨h1,h2⟩:=h
 refine ⟨h1,?_⟩
 rcases h2 with ⟨rfl,h0⟩|⟨g,cap,cur,rfl,hb,hh,hnc,hcm,hcs,ht⟩
 ·
  exact .inl ⟨h0,none,rfl,fun a ha=>by cases ha⟩
 ·
  exact .inr ⟨g,0,cap,cur,by rw [Nat.zero_mul],hb,hh,hnc,by rw [Nat.zero_add];exact hcm,by rw [Nat.zero_add];exact hcs,by rw [Nat.zero_mul,List.drop_zero];exact ht⟩
theorem q_typed (h:QRow w base e size v n xs) (k:Nat) (hk:v.ownBlock=some k):base≤k∧∃ cells,w.heap[k]?=some (.cells cells e (0,0)):=by
 rcases h.2 with ⟨_,A,rfl,hA⟩|⟨g,off,cap,cur,rfl,hg,hh,r⟩
 ·
  cases A with
  | none=>simp [Value.ownBlock] at hk
  | some a =>
   have:a.block=k:=by simpa [Value.ownBlock] using hk
   subst this
   exact hA a rfl
 ·
  have:g=k:=by simpa [Value.ownBlock] using hk
  subst this
  exact ⟨hg,cur,hh⟩
theorem q_slice (h:QRow w base e size v n xs):∃ A c,v=.slice A n c∧n≤c:=by
 rcases h.2 with ⟨h0,A,rfl,_⟩|⟨g,off,cap,cur,rfl,hg,hh,hnc,r⟩
 ·
  exact ⟨A,0,by rw [h0],by omega⟩
 ·
  exact ⟨_,cap,rfl,hnc⟩
theorem q_max (h:QRow w base e size v n xs):n≤9223372036854775807:=by
 rcases h.2 with ⟨h0,_⟩|⟨g,off,cap,cur,rfl,hg,hh,hnc,hm,r⟩
 ·
  omega
 ·
  simp only [maxLen] at hm
  omega
theorem add_at (g o j:Nat):(⟨g,o,none⟩:Addr).add j=⟨g,o+j,none⟩:=by unfold Addr.add;split <;> simp_all
theorem q_cells {A:Option Addr} {c:Nat} (h:QRow w base e size (.slice A n c) n xs) (hn:0 < n):∃ ad,A=some ad∧∀ j u,xs[j]?=some u→w.cell? (ad.add j)=some u:=by
 rcases h.2 with ⟨h0,_⟩|⟨g,off,cap,cur,he,hg,hh,hnc,hm,hcs,ht⟩
 ·
  omega
 ·
  injection he with ha _ hc
  subst ha
  refine ⟨_,rfl,fun j u hu=>?_⟩
  rw [add_at,cell_of_row w g _ cur e (0,0) hh]
  rw [← ht,List.getElem?_take] at hu
  split at hu
  ·
   rw [List.getElem?_drop] at hu
   rw [← Array.getElem?_toList]
   exact hu
  ·
   cases hu
/-- What a run of cells written leaves. -/
theorem setCells_far {g:Nat}:∀ (vs:List Value) (o:Nat) {w:World} (k:Nat),k≠g→(w.setCells g o vs).heap[k]?=w.heap[k]?
 | [],_,_,_,_=>rfl
 | v :: r,o,w,k,hk=>by
  rw [World.setCells,setCells_far r (o+1) k hk]
  exact Below.heap_setCell w ⟨g,o,none⟩ v k hk
theorem setCells_same (g:Nat):∀ (vs:List Value) (o:Nat) (w:World),(w.setCells g o vs).os=w.os∧(w.setCells g o vs).tape=w.tape∧(w.setCells g o vs).output=w.output∧(w.setCells g o vs).heap.size=w.heap.size
 | [],_,_=>⟨rfl,rfl,rfl,rfl⟩
 | v :: r,o,w=>by
  obtain ⟨h1,h2,h3,h4⟩:=setCells_same g r (o+1) (w.setCell ⟨g,o,none⟩ v)
  rw [World.setCells]
  exact ⟨h1,h2,h3,by rw [h4];simp [World.setCell]⟩
theorem setCells_row {g:Nat} {e:TypeId}:∀ (vs:List Value) (o:Nat) (w:World) (cur:Array Value),w.heap[g]?=some (.cells cur e (0,0))→o+vs.length≤cur.size →
  ∃ cur',(w.setCells g o vs).heap[g]?=some (.cells cur' e (0,0))∧cur'.size=cur.size∧cur'.toList=cur.toList.take o ++ vs ++ cur.toList.drop (o+vs.length)
 | [],o,w,cur,h,_=>⟨cur,h,rfl,by simp⟩
 | v :: r,o,w,cur,h,hl=>by
  have h2:=blk_set h o v
  simp only [List.length_cons] at hl
  obtain ⟨cur',h3,h4,h5⟩:=setCells_row r (o+1) (w.setCell ⟨g,o,none⟩ v) _ h2 (by simp;omega)
  refine ⟨cur',h3,by rw [h4];simp,?_⟩
  rw [h5,Array.toList_setIfInBounds]
  have ho:o < cur.toList.length:=by rw [Array.length_toList];omega
  rw [List.take_set,List.drop_set_of_lt (by omega)]
  simp only [List.length_cons]
  rw [show o+1+r.length=o+(r.length+1) by omega]
  congr 1
  rw [List.take_succ_eq_append_getElem ho,List.set_append_right _ _ (by rw [List.length_take];omega)]
  have ho':o < cur.size:=by omega
  simp [Nat.min_eq_left (Nat.le_of_lt ho')]
end
section
variable {P:Program}
end
/-! ### 28. The kinds' words for cuts: R_take; Q (a row that may begin inside its block) with all of R's movers -/
namespace Kd
theorem reps_take {α:Type} {R:α→List Value→Prop} {size m:Nat} {ps:List α} {cs:List Value} (h:Reps R size ps cs) (hm:m≤ps.length):Reps R size (ps.take m) (cs.take (m * size)):=by
 refine ⟨by rw [List.length_take,List.length_take,h.1,Nat.min_eq_left hm,Nat.min_eq_left (Nat.mul_le_mul_right _ hm)],fun j p hj=>?_⟩
 rw [List.getElem?_take] at hj
 split at hj
 ·
  rename_i hjm
  have:=h.2 j p hj
  have hle:j * size+size≤m * size:=by rw [← Nat.succ_mul];exact Nat.mul_le_mul_right _ hjm
  rw [List.drop_take,List.take_take,Nat.min_eq_left (by omega)]
  exact this
 ·
  cases hj
theorem R_take {α:Type} {d:Kd α} {e m n c:Nat} {w:World} {base:Nat} {ok:Nat→Prop} {A:Option Addr} {xs:List α} (h:d.R e w base ok (.slice A n c) xs) (hm:m≤xs.length):d.R e w base ok (.slice A m c) (xs.take m):=by
 obtain ⟨h0,inner,ho,hr⟩:=h
 have hn:n=xs.length:=by
  obtain ⟨A',c',he⟩:=own_slice ho
  injection he
 subst hn
 have hb:∀ x y:Nat,(Value.slice A x c).ownBlock=(Value.slice A y c).ownBlock:=by
  intro x y
  cases A <;> rfl
 refine ⟨fun k hk=>h0 k (by rw [hb _ m];exact hk),inner.take (m * d.sz),?_,?_⟩
 ·
  rw [List.length_take,Nat.min_eq_left hm]
  exact own_take ho hm
 ·
  rw [hb m xs.length]
  exact reps_take hr hm
def Q {α:Type} (d:Kd α) (e:Nat) (w:World) (base:Nat) (ok:Nat→Prop) (v:Value) (xs:List α):Prop :=
 (∀ k,v.ownBlock=some k→ok k)∧∃ inner,QRow w base e d.sz v xs.length inner∧Reps (d.M w base (fun k=>ok k∧some k≠v.ownBlock)) d.sz xs inner
section
variable {α:Type} {d:Kd α} {e:Nat} {w w1 W:World} {base:Nat} {ok ok':Nat→Prop} {v:Value} {xs:List α}
theorem Q_of_R (h:d.R e w base ok v xs):d.Q e w base ok v xs:=by
 obtain ⟨h0,inner,ho,hr⟩:=h
 exact ⟨h0,inner,q_of_own ho,hr⟩
theorem Q_nil (d:Kd α) (e:Nat) (w:World) (base:Nat) (ok:Nat→Prop):d.Q e w base ok (.slice none 0 0) []:=Q_of_R (R_nil d e w base ok)
theorem Q_reads' {A:Option Addr} {n c:Nat} (h:d.Q e w base ok (.slice A n c) xs):n=xs.length∧n≤c∧d.C w A xs.length xs:=by
 obtain ⟨_,inner,ho,hr⟩:=h
 obtain ⟨A',c',he,hl⟩:=q_slice ho
 injection he with h1 h2 h3
 subst h1;subst h2;subst h3
 refine ⟨rfl,hl,rfl,q_max ho,fun hp=>?_⟩
 obtain ⟨ad,ha,hc⟩:=q_cells ho hp
 refine ⟨ad,ha,fun j p hj=>⟨(inner.drop (j * d.sz)).take d.sz,?_,d.K_of_M (hr.2 j p hj),fun i u hu=>?_⟩⟩
 ·
  have hjl:=(List.getElem?_eq_some_iff.1 hj).1
  have h1:j * d.sz+d.sz≤inner.length:=by rw [hr.1,← Nat.succ_mul];exact Nat.mul_le_mul_right _ hjl
  rw [List.length_take,List.length_drop]
  omega
 ·
  refine hc _ u ?_
  rw [List.getElem?_take] at hu
  split at hu
  ·
   rw [List.getElem?_drop] at hu
   exact hu
  ·
   cases hu
end
section
variable {P:Program} {ops:Array Oper} {rest:List Oper} {o:Oper} {a:Act} {Q':Exit→Act→World→Prop} {Kc:Act→World→Prop} {α:Type}
end
end Kd
/-! ### 29. Movers that ask of another row no more than they need: for R and for Q -/
namespace Kd
section
variable {α:Type} {d:Kd α} {e e':Nat} {w w1 W:World} {base:Nat} {ok:Nat→Prop} {u v:Value} {xs:List α}
theorem R_typed (h:d.R e w base ok v xs):∀ k,v.ownBlock=some k→∃ cells,w.heap[k]?=some (.cells cells e (0,0)):=by
 obtain ⟨inner,ho⟩:=R_own h
 exact fun k hk=>own_typed ho k hk
theorem R_over' (h:d.R e W base ok u xs) (hty:∀ k,v.ownBlock=some k→∃ cells,W.heap[k]?=some (.cells cells e' (0,0))) (ht:∀ q,q∈e :: d.E→q≠e') (hg:W.grownBy w1 v.ownBlock):d.R e w1 base ok u xs:=by
 refine R_mono (R_move (R_bound h) (fun k hk=>hg.block k hk.2.2.1 (fun he=>?_))) (fun _ hk=>hk.1)
 obtain ⟨_,_,_,q,hq,cells,hc⟩:=hk
 obtain ⟨cells',hc'⟩:=hty k he.symm
 rw [hc] at hc'
 injection hc' with hc'
 injection hc' with _ hc'
 exact ht q hq hc'
theorem R_apart' (h:d.R e W base ok u xs) (hty:∀ k,v.ownBlock=some k→∃ cells,W.heap[k]?=some (.cells cells e' (0,0))) (ht:∀ q,q∈e :: d.E→q≠e'):d.R e W base (fun k=>ok k∧some k≠v.ownBlock) u xs:=by
 refine R_mono (R_bound h) (fun k hk=>⟨hk.1,fun he=>?_⟩)
 obtain ⟨_,_,_,q,hq,cells,hc⟩:=hk
 obtain ⟨cells',hc'⟩:=hty k he.symm
 rw [hc] at hc'
 injection hc' with hc'
 injection hc' with _ hc'
 exact ht q hq hc'
theorem fresh' (hlt:∀ k,u.ownBlock=some k→k < W.heap.size):∀ k,W.heap.size≤k→some k≠u.ownBlock:=fun k hk he=>by have:=hlt k he.symm;omega
end
end Kd
/-! ### 30. Elements written: x[i] = T{..}, x[i].f = v, swaps, in a row of elements of any kind -/
theorem seg_get {α:Type} (a seg:List α) (o:Nat) (h:o+seg.length≤a.length) (q:Nat) :
  (a.take o ++ seg ++ a.drop (o+seg.length))[q]?=if q < o then a[q]? else if q < o+seg.length then seg[q - o]? else a[q]?:=by
 have hl:(a.take o).length=o:=by rw [List.length_take];omega
 rw [List.append_assoc]
 by_cases h1:q < o
 ·
  rw [if_pos h1,List.getElem?_append_left (by omega),List.getElem?_take,if_pos h1]
 ·
  rw [if_neg h1,List.getElem?_append_right (by omega),hl]
  by_cases h2:q < o+seg.length
  ·
   rw [if_pos h2,List.getElem?_append_left (by omega)]
  ·
   rw [if_neg h2,List.getElem?_append_right (by omega),List.getElem?_drop]
   congr 1
   omega
namespace Kd
section
variable {α:Type} {d:Kd α} {e base g n cap:Nat} {ok okp:Nat→Prop} {W:World} {xs:List α}
end
end Kd
/-! ### 31. What came in, put into what is made: 'fixed d w0' (read in w0, whatever happens since), 'or_ a b', 'mix' (a slice that came in, or one that is made) -/
namespace Kd
section
variable {α:Type} {F:Kd α→Kd α} {sz:Nat} {E:List Nat} {hs:∀ n,(upto F sz E n).sz=sz} {hE:∀ n q,q∈(upto F sz E n).E→q∈E}
end
end Kd
/-! ### 32. A whole row appended, of elements of any kind; copy onto a row of scalars of one's own -/
namespace Kd
section
variable {P:Program} {ops:Array Oper} {rest:List Oper} {o:Oper} {a:Act} {Q:Exit→Act→World→Prop} {α:Type}
end
end Kd
/-! ### 33. A store into a row of one's own, as_ an event: no go_simp -/
namespace Kd
section
variable {P:Program} {ops:Array Oper} {rest:List Oper} {o:Oper} {a:Act} {Q:Exit→Act→World→Prop} {α:Type}
end
end Kd
/-! ### 34. Cuts that are only read, of any row -/
theorem add_add (a:Addr) (i j:Nat):(a.add i).add j=a.add (i+j):=by
 unfold Addr.add
 by_cases h1:i=0 <;> by_cases h2:j=0 <;> simp [h1,h2,Nat.add_assoc]
namespace Kd
section
variable {α:Type} {k:Kd α} {w:World} {A:Option Addr} {xs:List α} {m c:Nat}
end
end Kd
section
variable {P:Program}
end
/-! ### 35. string(b), b read (a cut too) -/
/-! ### 6. What the printer adds -/
theorem below_size {w W:World} (h:Below w.heap.size w W):w.heap.size≤W.heap.size:=h.size
theorem below_step {w W w2:World} (h:Below w.heap.size w W) (k:Below W.heap.size W w2):Below w.heap.size w w2:=below_then h h.size k
theorem ReadsInt.nil (W:World) (k:IntKind):ReadsInt W k none ([]:List Int).length []:=⟨rfl,by simp,fun h=>absurd h (Nat.lt_irrefl 0)⟩
theorem ReadsInt.drewN {W:World} {k:IntKind} {A:Option Addr} {n:Nat} {xs:List Int} (h:ReadsInt W k A n xs) (m:Nat):ReadsInt (W.drewN m) k A n xs:=h
theorem below_set {w W:World} {g j:Nat} {v:Value} (h:Below w.heap.size w W) (hg:w.heap.size≤g):Below w.heap.size w (W.setCell ⟨g,j,none⟩ v):=h.setCell hg _
theorem keep_drewN {w W:World} {g:Nat} {row:Option Nat} (h:KeepBut w W g row) (m:Nat):KeepBut w (W.drewN m) g row:=h
theorem keep_cell {w W:World} {g:Nat} (h:KeepBut w W g none) {a:Addr} {v:Value} (hc:w.cell? a=some v) (hne:a.block≠g):W.cell? a=some v:=by
 have:=h.2 a.block (World.block_lt_of_cell? w a hc) hne (by simp)
 simpa [World.cell?,this] using hc
theorem add_block (a:Addr) (i:Nat):(a.add i).block=a.block:=by unfold Addr.add;split <;> rfl
theorem below_weaken {w0 w w1:World} {B:Nat} (h:Below w0.heap.size w0 w) (hB:w0.heap.size≤B) (k:Below B w w1):Below w0.heap.size w0 w1 :=
 h.trans ⟨k.os,k.tape,k.output,k.size,fun i hi=>k.block i (Nat.lt_of_lt_of_le hi hB)⟩
theorem ReadsOf.nil {α:Type} (enc:α→Value) (d:α) (W:World):ReadsOf enc d W none ([]:List α).length []:=⟨rfl,by simp,fun h=>absurd h (Nat.lt_irrefl 0)⟩
theorem ReadsOf.drewN {α:Type} {enc:α→Value} {d:α} {W:World} {A:Option Addr} {n:Nat} {xs:List α} (h:ReadsOf enc d W A n xs) (m:Nat):ReadsOf enc d (W.drewN m) A n xs:=h
theorem ReadsInt.keep {w W:World} {k:IntKind} {A:Option Addr} {n g:Nat} {xs:List Int} (h:ReadsInt w k A n xs) (hk:KeepBut w W g none) (hf:∀ ad,A=some ad→0 < n→ad.block≠g):ReadsInt W k A n xs :=
 ⟨h.1,h.2.1,fun hn=>by
  obtain ⟨ad,e,hc⟩:=h.2.2 hn
  exact ⟨ad,e,fun j hj=>keep_cell hk (hc j hj) (by rw [add_block];exact hf ad e hn)⟩⟩
theorem ReadsOf.keep {α:Type} {enc:α→Value} {d:α} {w W:World} {A:Option Addr} {n g:Nat} {xs:List α} (h:ReadsOf enc d w A n xs) (hk:KeepBut w W g none) (hf:∀ ad,A=some ad→0 < n→ad.block≠g):ReadsOf enc d W A n xs :=
 ⟨h.1,h.2.1,fun hn=>by
  obtain ⟨ad,e,hc⟩:=h.2.2 hn
  exact ⟨ad,e,fun j hj=>keep_cell hk (hc j hj) (by rw [add_block];exact hf ad e hn)⟩⟩
theorem cell_far {W:World} {p a:Addr} (h:a.block≠p.block) (u:Value):(W.setCell p u).cell? a=W.cell? a:=by
 have:=Below.heap_setCell W p u a.block h
 simp [World.cell?,this]
theorem blk_put {w:World} {g:Nat} {t:TypeId} {cs cs':Array Value} (h:w.heap[g]?=some (.cells cs t (0,0))) (i:Nat) (u:Value) (e:cs.setIfInBounds i u=cs'):(w.setCell ⟨g,i,none⟩ u).heap[g]?=some (.cells cs' t (0,0)):=e ▸ blk_set h i u
theorem below_drew1 {base:Nat} {w W:World} (h:Below base w W):Below base w W.drew:=h.drew
namespace Kd
section
variable {α β:Type} {d:Kd α} {d':Kd β} {e e' base base' n:Nat} {ok ok':Nat→Prop} {w W w1 W1:World} {v u:Value} {xs:List α} {ys:List β} {A:Option Addr} {c:Nat}
end
section
variable {α:Type} {enc:α→Value} {h1:∀ x,(enc x).oneCell'=true} {w W:World} {A:Option Addr} {n g:Nat} {xs:List α}
end
end Kd
namespace Kd
section
variable {α:Type} {d:Kd α} {e base g:Nat} {ok:Nat→Prop} {w w1:World} {v:Value} {xs:List α} {o:Obj}
theorem R_elderB (h:d.R e w base ok v xs) (a:Nat) (ha:w.heap.size≤a):d.R e w base (fun k=>ok k∧k≠a) v xs:=R_mono (R_bound h) (fun k hk=>⟨hk.1,by have:=hk.2.2.1;omega⟩)
theorem freshB (hb:w.heap[g]?=some o):∀ k,w.heap.size≤k→k≠g:=fun k hk=>by have:=blk_lt hb;omega
end
end Kd
section
variable {P:Program} {ops:Array Oper} {rest:List Oper} {o:Oper} {a:Act} {Q:Exit→Act→World→Prop}
theorem box_event {W:World} (hgd:o.guard=none) {N:Tmp} (_hd:o.dst=some N) {cs:Array Value} {t:TypeId}
  (hrun:(execOp a.eval o).run P W=.ok (.value (.pointer (some ⟨W.heap.size,0,none⟩))) (W.alloc (.cells cs t (0,0))))
  (h:∀ g,g=W.heap.size→∀ w1,w1.heap[g]?=some (.cells cs t (0,0))→Below W.heap.size W w1→wpList P ops Q rest (a.put o.dst (.pointer (some ⟨g,0,none⟩))) w1):wpList P ops Q (o :: rest) a W :=
 Kd.event_run hgd hrun (h _ rfl _ (blk_new W _) (below_alloc (Below.refl _ _) _))
end
namespace Kd
section
variable {α:Type} {enc:α→Value} {h1:∀ x,(enc x).oneCell'=true} {e base g n cap:Nat} {ok:Nat→Prop} {W:World} {xs:List α}
end
end Kd
section
variable {P:Program} {ops:Array Oper} {rest:List Oper} {o:Oper} {a:Act} {Q:Exit→Act→World→Prop}
theorem store_event {W w1:World} (hgd:o.guard=none) {t:TypeId} {p:Tmp} {v:Operand} (_ho:o.op=.store t (.tmp p) v) (hN:o.dst=none)
  (hrun:(execOp a.eval o).run P W=.ok .skip w1) (h:∀ w',w'=w1→wpList P ops Q rest a w'):wpList P ops Q (o :: rest) a W:=by
 refine wpList_plain hgd fun K hK=>?_
 unfold Oper.wp
 rw [hrun]
 show K (a.put o.dst undef) w1
 rw [hN]
 exact hK _ _ (h _ rfl)
end
namespace Kd
section
variable {α:Type} {enc:α→Value} {h1:∀ x,(enc x).oneCell'=true} {e base g n cap:Nat} {ok:Nat→Prop} {W:World} {xs:List α}
end
end Kd
section
variable {P:Program} {ops:Array Oper} {rest:List Oper} {o:Oper} {a:Act} {Q:Exit→Act→World→Prop} {W:World}
theorem gate_dst {N:Tmp} (_hN:o.dst=some N) (h:wpList P ops Q (o :: rest) a W):wpList P ops Q (o :: rest) a W:=h
theorem gate_store {t:TypeId} {p:Tmp} {v:Operand} (_ho:o.op=.store t (.tmp p) v) (h:wpList P ops Q (o :: rest) a W):wpList P ops Q (o :: rest) a W:=h
end
/-! ### 36. Events as_ one step of a region that draws (for one_, two_, three_) -/
section
variable {P:Program} {ops:Array Oper} {o:Oper} {a:Act} {Q:Exit→Act→World→Prop} {Kc:Act→World→Prop}
namespace Kd
variable {α:Type}
end Kd
end
/-! ### 37. Results of any shape -/
inductive Vals (P:Program) (tmps:Array Value) (w:World):List ResultVar→List Value→Prop where
 | nil:Vals P tmps w [] []
 | tmp {u:Tmp} {rs:List ResultVar} {vs:List Value} (h:Vals P tmps w rs vs):Vals P tmps w (.tmp u :: rs) (tmps.getD u undef :: vs)
 | cell {p:Tmp} {ty:TypeId} {rs:List ResultVar} {vs:List Value} (g:Nat) (t:TypeId) (cs:Array Value) (fr:Nat×Nat) (d:TypeDesc)
   (hp:tmps.getD p undef=.pointer (some ⟨g,0,none⟩)) (hg:w.heap[g]?=some (.cells cs t fr))
   (hu:P.underlying ty=some d) (hd:(match d with|.struct _|.array _ _=>true|_=>false)=true) (hi:(P.info? ty).map (·.size)=some cs.size)
   (h:Vals P tmps w rs vs):Vals P tmps w (.cell p ty :: rs) (.agg cs :: vs)
section
variable {P:Program} {tmps:Array Value} {w:World}
theorem vals_run {rs:List ResultVar} {vs:List Value} (hv:Vals P tmps w rs vs) (f:ResultVar→Sem Value) (hf:∀ u,f (.tmp u)=pure (tmps.getD u undef)) (hc:∀ a t,f (.cell a t)=(do loadVar t (← asAddr (tmps.getD a undef)))) :
  (rs.mapM f).run P w=.ok vs w:=by
 induction hv with
 | nil=>simp
 | tmp h ih=>simp [List.mapM_cons,hf,ih]
 | cell g t cs fr d hp hg hu hd hi h ih =>
  rw [List.mapM_cons,hc,hp]
  simp [asAddr,run_loadVar_row w g t _ cs fr d hg hu hd hi,ih]
/-- Two results or more (or none): 'results_list (rs := [..]) rfl (by simp) (.cell g t cs fr d rfl hg hu rfl hi (.tmp (.tmp .nil)))'. -/
theorem results_list {fn:Func} {rs:List ResultVar} {vs:List Value} (h:fn.results=rs.toArray) (hl:vs.length≠1) (hv:Vals P tmps w rs vs):(results fn tmps).run P w=.ok (.tuple vs.toArray) w:=by
 unfold results
 rw [h,List.mapM_toArray]
 simp only [Sem.run_bind,Sem.run_map]
 rw [vals_run hv]
 ·
  simp [hl]
 ·
  intro u
  rfl
 ·
  intro a t
  rfl
end
/-! ### 38. 'out = append(out[:k], out[k+1:]...)': an element taken out of a row of one's own, in place -/
namespace Kd
section
variable {P:Program} {α:Type}
end
section
variable {P:Program} {ops:Array Oper} {rest:List Oper} {o:Oper} {a:Act} {Q:Exit→Act→World→Prop} {Kc:Act→World→Prop} {α:Type}
end
end Kd
end Go.Proofs.YtpejjpecdkbleaaW.PrintWords
/-! #### WLast -/
/-
 PRINTED WORDS, second file: A REGION THAT DRAWS ITS ORDER, WALKED BY HAND, where its last store writes what its own loads read ('x.f = append(x.f, f(i))'). Plain theorems; no macro, no elab. A claim may hold it (turn the namespace's name).
 A load may be taken first in every world that meets S; behind the operations of ds nothing is shown; sound because each of ds waits for what is taken (Region.lastB). The kernel checks it.
 By an AI agent of Go's test side, Mon Nov 16 2026. No person has read it.
-/
namespace Go.Proofs.YtpejjpecdkbleaaW.PrintLast
section
variable {P:Program} {ops:Array Oper} {Q:Exit→Act→World→Prop} {md:Region.Mode} {S:World→Prop} {ds:List Nat}
/-- Operation d waits for operation i, by a chain of at most 'fuel' edges. -/
def Region.reachB (md:Region.Mode) (ops:Array Oper) (i:Nat):Nat→Nat→Bool
 | 0,_=>false
 | fuel+1,d=>match ops[d]? with
  | some o=>o.after.any fun e=>Region.binds md e && (e.on == i || Region.reachB md ops i fuel e.on)
  | none=>false
/-- What is listed is closed under the edges. -/
def Region.closedB (md:Region.Mode) (ops:Array Oper) (listed:Array Bool):Bool :=
 (List.range ops.size).all fun j=>!listed.getD j false || match ops[j]? with
  | some o=>o.after.all fun e=>!Region.binds md e || listed.getD e.on false
  | none=>true
/-- Each of ds that has not come up yet waits for number i. -/
def Region.lastB (md:Region.Mode) (ops:Array Oper) (listed:Array Bool) (ds:List Nat) (i:Nat):Bool :=
 ds.all fun d=>listed.getD d true || Region.reachB md ops i ops.size d
def ListedClosed (md:Region.Mode) (ops:Array Oper) (listed:Array Bool):Prop :=
 ∀ j oj,ops[j]?=some oj→listed.getD j false=true→∀ e∈oj.after,Region.binds md e=true→listed.getD e.on false=true
theorem Region.closedB_spec {listed:Array Bool} (h:Region.closedB md ops listed=true):ListedClosed md ops listed:=by
 intro j oj hj hl e he hb
 have hlt:j < ops.size:=(Array.getElem?_eq_some_iff.1 hj).1
 have h1:=List.all_eq_true.1 h j (List.mem_range.2 hlt)
 simp only [hl,hj,Bool.not_true,Bool.false_or] at h1
 have h2:=Array.all_eq_true_iff_forall_mem.1 h1 e he
 simpa [hb] using h2
theorem ListedClosed.set {listed:Array Bool} {i:Nat} (h:ListedClosed md ops listed) (hi:i∈Region.ready md ops listed):ListedClosed md ops (listed.setIfInBounds i true):=by
 obtain ⟨_,oi,hoi,hall⟩:=mem_ready.1 hi
 intro j oj hj hl e he hb
 by_cases hij:i=j
 ·
  subst hij
  have:oj=oi:=Option.some.inj (hj.symm.trans hoi)
  subst this
  exact getD_set_true (hall e he hb)
 ·
  rw [getD_set_ne false hij] at hl
  exact getD_set_true (h j oj hj hl e he hb)
theorem Region.reach_listed {listed:Array Bool} {i:Nat} (hc:ListedClosed md ops listed):∀ (fuel d:Nat),Region.reachB md ops i fuel d=true→listed.getD d false=true→listed.getD i false=true
 | 0,_,h,_=>by simp [Region.reachB] at h
 | fuel+1,d,h,hl=>by
  unfold Region.reachB at h
  cases ho:ops[d]? with
  | none=>rw [ho] at h;simp at h
  | some o =>
   rw [ho] at h
   obtain ⟨e,he,h1⟩:=Array.any_eq_true'.1 h
   simp only [Bool.and_eq_true,Bool.or_eq_true,beq_iff_eq] at h1
   have hle:=hc d o ho hl e he h1.1
   rcases h1.2 with h2|h2
   ·
    rw [← h2];exact hle
   ·
    exact Region.reach_listed hc fuel e.on h2 hle
/-- What waits for i cannot come up before i is listed. -/
theorem Region.reach_not_ready {listed:Array Bool} {i d fuel:Nat} (hc:ListedClosed md ops listed) (hr:Region.reachB md ops i fuel d=true) (hun:listed.getD i true=false):d ∉ Region.ready md ops listed:=by
 intro hd
 obtain ⟨_,o,ho,hall⟩:=mem_ready.1 hd
 have hi:listed.getD i false=true:=by
  cases fuel with
  | zero=>simp [Region.reachB] at hr
  | succ n =>
   unfold Region.reachB at hr
   rw [ho] at hr
   obtain ⟨e,he,h1⟩:=Array.any_eq_true'.1 hr
   simp only [Bool.and_eq_true,Bool.or_eq_true,beq_iff_eq] at h1
   have hle:=hall e he h1.1
   rcases h1.2 with h2|h2
   ·
    rw [← h2];exact hle
   ·
    exact Region.reach_listed hc n e.on h2 hle
 rcases Nat.lt_or_ge i listed.size with h'|h'
 ·
  simp [h'] at hun hi
  rw [hun] at hi
  cases hi
 ·
  simp [Array.getElem?_eq_none h'] at hun
/-- Whatever order is picked from here on, AND 'S' HOLDS BEHIND EVERY OPERATION THAT IS CARRIED OUT, those of ds apart. -/
def wpAnyLast (P:Program) (md:Region.Mode) (ops:Array Oper) (Q:Exit→Act→World→Prop) (S:World→Prop) (ds:List Nat):Nat→Array Bool→Act→World→Prop
 | 0,listed,a,w=>Region.ready md ops listed=[]∧Q .normal a w
 | fuel+1,listed,a,w =>
  (Region.ready md ops listed=[]→Q .normal a w) ∧
  ∀ i∈Region.ready md ops listed,wpOp P ops Q i (fun a' w'=>(i ∉ ds→S w→S w')∧wpAnyLast P md ops Q S ds fuel (listed.setIfInBounds i true) a' w') a w
theorem wpAny_of_last:∀ (fuel:Nat) (listed:Array Bool) (a:Act) (w:World),wpAnyLast P md ops Q S ds fuel listed a w→wpAny P md ops Q fuel listed a w
 | 0,_,_,_,h=>h
 | fuel+1,_,_,_,h=>⟨h.1,fun i hi=>wpOp_mono (fun a' w' h'=>wpAny_of_last fuel _ a' w' h'.2) (h.2 i hi)⟩
theorem wpAnyLast_first {i:Nat} {oi:Oper} {v:Value} (hi:ops[i]?=some oi) (hsel:∀ (j:Nat) (o:Oper) cs b,ops[j]?=some o→o.op≠.select cs b)
  (hQ:∀ c a w,Q (.panic c) (a.put oi.dst v) w→Q (.panic c) a w) (n:Nat) :
  ∀ (fuel:Nat) (listed:Array Bool) (a:Act) (w:World),
   (∀ j oj,ops[j]?=some oj→j≠i→listed.getD j true=false→(∀ e∈oj.after,Region.binds md e=true→e.on≠i)→oi.apart ops oj=true) →
   ListedClosed md ops listed→(∀ d∈ds,listed.getD d true=false→Region.reachB md ops i n d=true) →
   i∈Region.ready md ops listed→YieldsIf P ops S oi v a→S w →
   wpAnyLast P md ops Q S ds fuel (listed.setIfInBounds i true) (a.put oi.dst v) w→wpAnyLast P md ops Q S ds (fuel+1) listed a w:=by
 intro fuel
 induction fuel with
 | zero =>
  intro listed a w _ _ _ hr hy hS H
  refine ⟨fun h=>(by rw [h] at hr;cases hr),fun j hj=>?_⟩
  by_cases hji:j=i
  ·
   subst hji;exact hy.wpOp hi hS ⟨fun _ h=>h,H⟩
  ·
   have:=ready_mono hj hji
   rw [H.1] at this
   cases this
 | succ fuel ih =>
  intro listed a w hfree hc hd hr hy hS H
  refine ⟨fun h=>(by rw [h] at hr;cases hr),fun j hj=>?_⟩
  by_cases hji:j=i
  ·
   subst hji;exact hy.wpOp hi hS ⟨fun _ h=>h,H⟩
  ·
   have h1:=H.2 j (ready_mono hj hji)
   obtain ⟨hjun,oj,hoj,hall⟩:=mem_ready.1 hj
   have hiun:=(mem_ready.1 hr).1
   have hnot:∀ e∈oj.after,Region.binds md e=true→e.on≠i:=fun e he hb heq=>by
    have h1:=hall e he hb
    rw [heq] at h1
    rcases Nat.lt_or_ge i listed.size with h'|h'
    ·
     simp [h'] at hiun h1;rw [hiun] at h1;cases h1
    ·
     simp [Array.getElem?_eq_none h'] at h1
   have hjd:j ∉ ds:=fun hm=>Region.reach_not_ready hc (hd j hm hjun) hiun hj
   have h2:=wpOp_putIf hoj (hfree j oj hoj hji hjun hnot) (fun cs b=>hsel i oi cs b hi) (fun cs b=>hsel j oj cs b hoj) hQ hy h1
   have hfree':∀ k ok,ops[k]?=some ok→k≠i→(listed.setIfInBounds j true).getD k true=false →
     (∀ e∈ok.after,Region.binds md e=true→e.on≠i)→oi.apart ops ok=true:=fun k ok hk hki hun hno=>by
    refine hfree k ok hk hki ?_ hno
    by_cases hjk:j=k
    ·
     subst hjk;exact hjun
    ·
     rw [getD_set_ne true hjk] at hun;exact hun
   have hd':∀ d∈ds,(listed.setIfInBounds j true).getD d true=false→Region.reachB md ops i n d=true:=fun d hm hun=>by
    refine hd d hm ?_
    by_cases hjk:j=d
    ·
     subst hjk;exact hjun
    ·
     rw [getD_set_ne true hjk] at hun;exact hun
   refine wpOp_mono (fun a' w' h3=>⟨h3.2.1,ih (listed.setIfInBounds j true) a' w' hfree' (hc.set hj) hd' (ready_mono hr (Ne.symm hji)) h3.1 (h3.2.1 hjd hS) ?_⟩) h2
   rw [Array.setIfInBounds_comm _ _ hji]
   exact h3.2.2
/-- Take number 'i' first, which yields whatever the world: no S is asked for, nor that anything waits for it. -/
theorem wpAnyLast_any {i:Nat} {oi:Oper} {v:Value} (hi:ops[i]?=some oi) (hsel:∀ (j:Nat) (o:Oper) cs b,ops[j]?=some o→o.op≠.select cs b)
  (hQ:∀ c a w,Q (.panic c) (a.put oi.dst v) w→Q (.panic c) a w) :
  ∀ (fuel:Nat) (listed:Array Bool) (a:Act) (w:World),
   (∀ j oj,ops[j]?=some oj→j≠i→listed.getD j true=false→(∀ e∈oj.after,Region.binds md e=true→e.on≠i)→oi.apart ops oj=true) →
   i∈Region.ready md ops listed→Yields P ops oi v a →
   wpAnyLast P md ops Q S ds fuel (listed.setIfInBounds i true) (a.put oi.dst v) w→wpAnyLast P md ops Q S ds (fuel+1) listed a w:=by
 intro fuel
 induction fuel with
 | zero =>
  intro listed a w _ hr hy H
  refine ⟨fun h=>(by rw [h] at hr;cases hr),fun j hj=>?_⟩
  by_cases hji:j=i
  ·
   subst hji;exact (hy.yieldsIf (S:=fun _=>True)).wpOp hi trivial ⟨fun _ h=>h,H⟩
  ·
   have:=ready_mono hj hji
   rw [H.1] at this
   cases this
 | succ fuel ih =>
  intro listed a w hfree hr hy H
  refine ⟨fun h=>(by rw [h] at hr;cases hr),fun j hj=>?_⟩
  by_cases hji:j=i
  ·
   subst hji;exact (hy.yieldsIf (S:=fun _=>True)).wpOp hi trivial ⟨fun _ h=>h,H⟩
  ·
   have h1:=H.2 j (ready_mono hj hji)
   obtain ⟨hjun,oj,hoj,hall⟩:=mem_ready.1 hj
   have hiun:=(mem_ready.1 hr).1
   have hnot:∀ e∈oj.after,Region.binds md e=true→e.on≠i:=fun e he hb heq=>by
    have h1:=hall e he hb
    rw [heq] at h1
    rcases Nat.lt_or_ge i listed.size with h'|h'
    ·
     simp [h'] at hiun h1;rw [hiun] at h1;cases h1
    ·
     simp [Array.getElem?_eq_none h'] at h1
   have h2:=wpOp_put hoj (hfree j oj hoj hji hjun hnot) (fun cs b=>hsel i oi cs b hi) (fun cs b=>hsel j oj cs b hoj) hQ hy h1
   have hfree':∀ k ok,ops[k]?=some ok→k≠i→(listed.setIfInBounds j true).getD k true=false →
     (∀ e∈ok.after,Region.binds md e=true→e.on≠i)→oi.apart ops ok=true:=fun k ok hk hki hun hno=>by
    refine hfree k ok hk hki ?_ hno
    by_cases hjk:j=k
    ·
     subst hjk;exact hjun
    ·
     rw [getD_set_ne true hjk] at hun;exact hun
   refine wpOp_mono (fun a' w' h3=>⟨h3.2.1,ih (listed.setIfInBounds j true) a' w' hfree' (ready_mono hr (Ne.symm hji)) h3.1 ?_⟩) h2
   rw [Array.setIfInBounds_comm _ _ hji]
   exact h3.2.2
/-- Take number 'i' first. -/
theorem wpAnyLast_take {i:Nat} {oi:Oper} {v:Value} {fuel:Nat} {listed:Array Bool} {a:Act} {w:World} (hi:ops[i]?=some oi)
  (hs:Region.noSelect ops=true) (hf:Region.free md ops listed i=true) (hr:(Region.ready md ops listed).contains i=true)
  (hc:Region.closedB md ops listed=true) (hl:Region.lastB md ops listed ds i=true)
  (hQ:∀ c a w,Q (.panic c) (a.put oi.dst v) w→Q (.panic c) a w) (hy:YieldsIf P ops S oi v a) (hS:S w)
  (h:wpAnyLast P md ops Q S ds fuel (listed.setIfInBounds i true) (a.put oi.dst v) w):wpAnyLast P md ops Q S ds (fuel+1) listed a w :=
 wpAnyLast_first hi (Region.noSelect_spec hs) hQ ops.size fuel listed a w (Region.free_spec hi hf) (Region.closedB_spec hc)
  (fun d hm hun=>by have:=List.all_eq_true.1 hl d hm;rw [hun] at this;simpa using this) (by simpa using hr) hy hS h
theorem wpAnyLast_all {rs:List Nat} {fuel:Nat} {listed:Array Bool} {a:Act} {w:World} (hr:Region.ready md ops listed=rs) (hne:rs≠[])
  (h:∀ i∈rs,wpOp P ops Q i (fun a' w'=>(i ∉ ds→S w→S w')∧wpAnyLast P md ops Q S ds fuel (listed.setIfInBounds i true) a' w') a w):wpAnyLast P md ops Q S ds (fuel+1) listed a w :=
 ⟨fun h0=>absurd (hr ▸ h0) hne,hr ▸ h⟩
theorem wpAnyLast_done {listed:Array Bool} {a:Act} {w:World} (hr:Region.ready md ops listed=[]) (h:Q .normal a w) :
  ∀ fuel,wpAnyLast P md ops Q S ds fuel listed a w
 | 0=>⟨hr,h⟩
 | _+1=>⟨fun _=>h,by rw [hr];simp⟩
theorem wp_region_last {id:Nat} {a:Act} {w:World} (hm:P.follows .mixedOrders=true)
  (h:wpAnyLast P .any ops Q S ds ops.size (Array.replicate ops.size false) a { w with drawn:=w.drawn+1 }):(Code.region id ops true).wp P Q a w :=
 wp_region_any hm (wpAny_of_last _ _ _ _ h)
end
section
variable {P:Program} {ops:Array Oper} {Q:Exit→Act→World→Prop} {md:Region.Mode} {S:World→Prop} {ds:List Nat}
def AllReadyL (P:Program) (md:Region.Mode) (ops:Array Oper) (Q:Exit→Act→World→Prop) (S:World→Prop) (ds:List Nat) (fuel:Nat) (listed:Array Bool) (a:Act) (w:World) (rs:List Nat):Prop :=
 ∀ i∈rs,wpOp P ops Q i (fun a' w'=>(i ∉ ds→S w→S w')∧wpAnyLast P md ops Q S ds fuel (listed.setIfInBounds i true) a' w') a w
theorem AllReadyL.nil {fuel:Nat} {listed:Array Bool} {a:Act} {w:World}:AllReadyL P md ops Q S ds fuel listed a w []:=fun _ h=>by cases h
theorem AllReadyL.cons {fuel:Nat} {listed:Array Bool} {a:Act} {w:World} {i:Nat} {o:Oper} {rs:List Nat} (ho:ops[i]?=some o) (hd:i ∉ ds)
  (h:∀ K':Act→World→Prop,Shut (∀ a w,S w→(S w→wpAnyLast P md ops Q S ds fuel (listed.setIfInBounds i true) a w)→K' a w)→if Region.wanted o (yielded ops a.tmps)=true then Oper.wp P o a w K' Q else K' (a.put o.dst undef) w)
  (hs:AllReadyL P md ops Q S ds fuel listed a w rs):AllReadyL P md ops Q S ds fuel listed a w (i :: rs):=fun j hj=>by
 rcases List.mem_cons.1 hj with rfl|hj
 ·
  exact wpOp_step ho (fun K' hK=>h K' (fun a w hS hW=>hK a w ⟨fun _ _=>hS,hW hS⟩))
 ·
  exact hs j hj
theorem wpAnyLast_ready {rs:List Nat} {fuel:Nat} {listed:Array Bool} {a:Act} {w:World} (hr:Region.ready md ops listed=rs) (hne:rs≠[])
  (h:AllReadyL P md ops Q S ds fuel listed a w rs):wpAnyLast P md ops Q S ds (fuel+1) listed a w:=wpAnyLast_all hr hne h
/-- THE SAME STEPS WITH WHAT HAS COME UP WRITTEN OUT (a literal array of Bools) and one check a step: quicker, and what is printed stays short. -/
theorem start_ {id n:Nat} {a:Act} {w:World} (l:Array Bool) (hm:P.follows .mixedOrders=true) (hn:ops.size=n) (hl:Array.replicate n false=l) (hS:S w.drew)
  (h:S w.drew→wpAnyLast P .any ops Q S ds n l a w.drew):(Code.region id ops true).wp P Q a w:=by
 subst hn
 subst hl
 exact wp_region_last hm (h hS)
def takeB (md:Region.Mode) (ops:Array Oper) (ds:List Nat) (l l':Array Bool) (i:Nat):Bool :=
 Region.noSelect ops && Region.free md ops l i && (Region.ready md ops l).contains i && Region.closedB md ops l && Region.lastB md ops l ds i && (l.setIfInBounds i true == l')
theorem take_ {i:Nat} {N:Option Tmp} {oi:Oper} {v:Value} {fuel:Nat} {l:Array Bool} {a:Act} {w:World} (l':Array Bool) (hi:ops[i]?=some oi) (hN:oi.dst=N) (hc:takeB md ops ds l l' i=true)
  (hQ:∀ c a w,Q (.panic c) (a.put oi.dst v) w→Q (.panic c) a w) (hy:YieldsIf P ops S oi v a) (hS:S w) {a':Act} (ha:a.put N v=a')
  (h:wpAnyLast P md ops Q S ds fuel l' a' w):wpAnyLast P md ops Q S ds (fuel+1) l a w:=by
 subst ha
 subst hN
 simp only [takeB,Bool.and_eq_true,beq_iff_eq] at hc
 obtain ⟨⟨⟨⟨⟨h1,h2⟩,h3⟩,h4⟩,h5⟩,h6⟩:=hc
 subst h6
 exact wpAnyLast_take hi h1 h2 h3 h4 h5 hQ hy hS h
def anyB (md:Region.Mode) (ops:Array Oper) (l l':Array Bool) (i:Nat):Bool :=
 Region.noSelect ops && Region.free md ops l i && (Region.ready md ops l).contains i && (l.setIfInBounds i true == l')
/-- An operation that yields in every world (a move, a number, an address): taken first wherever it may come up, behind a store too. -/
theorem pure_ {i:Nat} {N:Option Tmp} {oi:Oper} {v:Value} {fuel:Nat} {l:Array Bool} {a:Act} {w:World} (l':Array Bool) (hi:ops[i]?=some oi) (hN:oi.dst=N) (hc:anyB md ops l l' i=true)
  (hQ:∀ c a w,Q (.panic c) (a.put oi.dst v) w→Q (.panic c) a w) (hy:Yields P ops oi v a) {a':Act} (ha:a.put N v=a')
  (h:wpAnyLast P md ops Q S ds fuel l' a' w):wpAnyLast P md ops Q S ds (fuel+1) l a w:=by
 subst ha
 subst hN
 simp only [anyB,Bool.and_eq_true,beq_iff_eq] at hc
 obtain ⟨⟨⟨h1,h2⟩,h3⟩,h6⟩:=hc
 subst h6
 exact wpAnyLast_any hi (Region.noSelect_spec h1) hQ fuel l a w (Region.free_spec hi h2) (by simpa using h3) hy h
def readyB (md:Region.Mode) (ops:Array Oper) (l l':Array Bool) (i:Nat):Bool:=(Region.ready md ops l == [i]) && (l.setIfInBounds i true == l')
/-- One operation alone may come up now (a call, a build, an append ..): it is run, S is shown behind it. -/
theorem one_ {i:Nat} {N:Option Tmp} {oi:Oper} {fuel:Nat} {l:Array Bool} {a:Act} {w:World} (l':Array Bool) (hi:ops[i]?=some oi) (hN:oi.dst=N) (hc:readyB md ops l l' i=true) (hd:i ∉ ds)
  (h:∀ K:Act→World→Prop,Shut (∀ a' w',S w'→(S w'→wpAnyLast P md ops Q S ds fuel l' a' w')→K a' w')→if Region.wanted oi (yielded ops a.tmps)=true then Oper.wp P oi a w K Q else K (a.put N undef) w) :
  wpAnyLast P md ops Q S ds (fuel+1) l a w:=by
 subst hN
 simp only [readyB,Bool.and_eq_true,beq_iff_eq] at hc
 obtain ⟨h1,h2⟩:=hc
 subst h2
 exact wpAnyLast_ready h1 (by simp) (AllReadyL.cons hi hd (fun K hK=>h K hK) AllReadyL.nil)
theorem done_ {l:Array Bool} {a:Act} {w:World} {n:Nat} (hr:(Region.ready md ops l == [])=true) (h:Q .normal a w):wpAnyLast P md ops Q S ds n l a w:=wpAnyLast_done (by simpa using hr) h n
/-! ### Several operations that write or call may come up: each order is walked, what follows is shown once (join_) -/
theorem two_ {i j:Nat} {Ni Nj:Option Tmp} {oi oj:Oper} {fuel:Nat} {l:Array Bool} {a:Act} {w:World} (li lj:Array Bool) (hi:ops[i]?=some oi) (hj:ops[j]?=some oj) (hNi:oi.dst=Ni) (hNj:oj.dst=Nj)
  (hc:(Region.ready md ops l == [i,j] && l.setIfInBounds i true == li && l.setIfInBounds j true == lj)=true) (hdi:i ∉ ds) (hdj:j ∉ ds)
  (h1:∀ K:Act→World→Prop,Shut (∀ a' w',S w'→(S w'→wpAnyLast P md ops Q S ds fuel li a' w')→K a' w')→if Region.wanted oi (yielded ops a.tmps)=true then Oper.wp P oi a w K Q else K (a.put Ni undef) w)
  (h2:∀ K:Act→World→Prop,Shut (∀ a' w',S w'→(S w'→wpAnyLast P md ops Q S ds fuel lj a' w')→K a' w')→if Region.wanted oj (yielded ops a.tmps)=true then Oper.wp P oj a w K Q else K (a.put Nj undef) w) :
  wpAnyLast P md ops Q S ds (fuel+1) l a w:=by
 subst hNi
 subst hNj
 simp only [Bool.and_eq_true,beq_iff_eq] at hc
 obtain ⟨⟨h3,h4⟩,h5⟩:=hc
 subst h4
 subst h5
 exact wpAnyLast_ready h3 (by simp) (AllReadyL.cons hi hdi (fun K hK=>h1 K hK) (AllReadyL.cons hj hdj (fun K hK=>h2 K hK) AllReadyL.nil))
theorem three_ {i j k:Nat} {Ni Nj Nk:Option Tmp} {oi oj ok:Oper} {fuel:Nat} {l:Array Bool} {a:Act} {w:World} (li lj lk:Array Bool) (hi:ops[i]?=some oi) (hj:ops[j]?=some oj) (hk:ops[k]?=some ok) (hNi:oi.dst=Ni) (hNj:oj.dst=Nj) (hNk:ok.dst=Nk)
  (hc:(Region.ready md ops l == [i,j,k] && l.setIfInBounds i true == li && l.setIfInBounds j true == lj && l.setIfInBounds k true == lk)=true) (hdi:i ∉ ds) (hdj:j ∉ ds) (hdk:k ∉ ds)
  (h1:∀ K:Act→World→Prop,Shut (∀ a' w',S w'→(S w'→wpAnyLast P md ops Q S ds fuel li a' w')→K a' w')→if Region.wanted oi (yielded ops a.tmps)=true then Oper.wp P oi a w K Q else K (a.put Ni undef) w)
  (h2:∀ K:Act→World→Prop,Shut (∀ a' w',S w'→(S w'→wpAnyLast P md ops Q S ds fuel lj a' w')→K a' w')→if Region.wanted oj (yielded ops a.tmps)=true then Oper.wp P oj a w K Q else K (a.put Nj undef) w)
  (h3:∀ K:Act→World→Prop,Shut (∀ a' w',S w'→(S w'→wpAnyLast P md ops Q S ds fuel lk a' w')→K a' w')→if Region.wanted ok (yielded ops a.tmps)=true then Oper.wp P ok a w K Q else K (a.put Nk undef) w) :
  wpAnyLast P md ops Q S ds (fuel+1) l a w:=by
 subst hNi
 subst hNj
 subst hNk
 simp only [Bool.and_eq_true,beq_iff_eq] at hc
 obtain ⟨⟨⟨h4,h5⟩,h6⟩,h7⟩:=hc
 subst h5
 subst h6
 subst h7
 exact wpAnyLast_ready h4 (by simp) (AllReadyL.cons hi hdi (fun K hK=>h1 K hK) (AllReadyL.cons hj hdj (fun K hK=>h2 K hK) (AllReadyL.cons hk hdk (fun K hK=>h3 K hK) AllReadyL.nil)))
/-- The act with some destinations filled. -/
def putAll:Act→List (Tmp×Value)→Act
 | a,[]=>a
 | a,(n,v) :: r=>putAll (a.put (some n) v) r
/-- What follows, once: s the values that the orders leave, F what is known of them and of the world. -/
theorem join_ {σ:Type} {fuel:Nat} {l:Array Bool} {a:Act} {w:World} (fuel':Nat) (l':Array Bool) (ns:σ→List (Tmp×Value)) (F:σ→World→Prop)
  (hcont:∀ s w',F s w'→wpAnyLast P md ops Q S ds fuel' l' (putAll a (ns s)) w')
  (h:(∀ s w',F s w'→wpAnyLast P md ops Q S ds fuel' l' (putAll a (ns s)) w')→wpAnyLast P md ops Q S ds fuel l a w):wpAnyLast P md ops Q S ds fuel l a w:=h hcont
/-- The act written out. -/
theorem norm_ {fuel:Nat} {l:Array Bool} {a a':Act} {w:World} (ha:a=a') (h:wpAnyLast P md ops Q S ds fuel l a' w):wpAnyLast P md ops Q S ds fuel l a w:=by
 subst ha
 exact h
/-- A call of a Go function, by its contract. -/
theorem call_ {oi:Oper} {N:Option Tmp} {a:Act} {w:World} {K:Act→World→Prop} (f:FuncId) (args:Array Value) (hw:Region.wanted oi (yielded ops a.tmps)=true) (hN:oi.dst=N) (hrun:(execOp a.eval oi).run P w=.ok (.enter f args) w)
  (h:Calls P f args w fun e w'=>∃ v,e=.returned v∧K (a.put N v) w'):if Region.wanted oi (yielded ops a.tmps)=true then Oper.wp P oi a w K Q else K (a.put N undef) w:=by
 rw [if_pos hw]
 subst hN
 unfold Oper.wp
 rw [hrun,Oper.upon_enter]
 refine h.mono fun e w'' hh=>?_
 obtain ⟨v,rfl,hk⟩:=hh
 exact hk
theorem enters_ {f : FuncId} {fn : Func} (hf : P.funcs[f]? = some fn) (hname : (fn.name == "runtime.NumGoroutine") = false) (hb : fn.body.isSome = true) (args : Array Value) (w : World) : (callFunc f args).run P w = .ok (.enter f args) w := by
 have h1 : fn.name ≠ "runtime.NumGoroutine" := by simpa using hname
 obtain ⟨c,hc⟩:=Option.isSome_iff_exists.1 hb
 simp [callFunc,hf,h1,hc]
/-- The same, the operation's run shown here: 'goes_ A.func3 (by kernel_rfl) rfl #[..] (by rfl) rfl rfl (by rfl) ?_'. -/
theorem goes_ {oi : Oper} {N : Option Tmp} {a : Act} {w : World} {K : Act → World → Prop} {f : FuncId} {fn : Func} {as_ : Array Operand} {ts : Array TypeId} (hf : P.funcs[f]? = some fn) (hname : (fn.name == "runtime.NumGoroutine") = false) (hb : fn.body.isSome = true) (args : Array Value)
  (hw:Region.wanted oi (yielded ops a.tmps)=true) (hN:oi.dst=N) (hop:oi.op=.call { callee:=.value (.func f),args:=as_,argTypes:=ts }) (hargs:as_.map a.eval=args)
  (h:Calls P f args w fun e w'=>∃ v,e=.returned v∧K (a.put N v) w'):if Region.wanted oi (yielded ops a.tmps)=true then Oper.wp P oi a w K Q else K (a.put N undef) w:=by
 refine call_ f args hw hN ?_ h
 have he:=enters_ hf hname hb args w
 unfold execOp
 simp [hop,resolve,Deferred.ofValue,invoke,Act.eval,hargs,he]
/-- A call in a plain region, as an arm of go_wp2_with ('hd' first: it fails at once at another operation). -/
theorem goesL_ {rest : List Oper} {oi : Oper} {a : Act} {w : World} (N : Option Tmp) (hd : oi.dst = N) (hg : oi.guard = none) {f : FuncId} {fn : Func} {as_ : Array Operand} {ts : Array TypeId} (hf : P.funcs[f]? = some fn) (hname : (fn.name == "runtime.NumGoroutine") = false) (hb : fn.body.isSome = true) (args : Array Value)
  (hop:oi.op=.call { callee:=.value (.func f),args:=as_,argTypes:=ts }) (hargs:as_.map a.eval=args)
  (h:Calls P f args w fun e w'=>∃ v,e=.returned v∧wpList P ops Q rest (a.put N v) w'):wpList P ops Q (oi :: rest) a w:=by
 refine wpList_plain hg fun K hK=>?_
 have he:=enters_ hf hname hb args w
 have hrun:(execOp a.eval oi).run P w=.ok (.enter f args) w:=by
  unfold execOp
  simp [hop,resolve,Deferred.ofValue,invoke,Act.eval,hargs,he]
 unfold Oper.wp
 rw [hrun,Oper.upon_enter]
 refine h.mono fun e w'' hh=>?_
 obtain ⟨v,rfl,hk⟩:=hh
 subst hd
 exact hK _ _ hk
/-- A store. -/
theorem skip_ {oi:Oper} {a:Act} {w w1:World} {K:Act→World→Prop} (hw:Region.wanted oi (yielded ops a.tmps)=true) (hN:oi.dst=none) (hrun:(execOp a.eval oi).run P w=.ok .skip w1)
  (h:K a w1):if Region.wanted oi (yielded ops a.tmps)=true then Oper.wp P oi a w K Q else K (a.put none undef) w:=by
 rw [if_pos hw]
 unfold Oper.wp
 rw [hrun]
 show K (a.put oi.dst undef) w1
 rw [hN]
 exact h
theorem i64_w (n:Int):IntKind.i64.wrap n=Go.RowKit.wrap64 n:=by unfold Go.RowKit.wrap64;exact IntKind.wrap_i64 n
theorem i32_w (n:Int):IntKind.i32.wrap n=Go.RowKit.wrap32 n:=by unfold Go.RowKit.wrap32;exact IntKind.wrap_i32 n
end
end Go.Proofs.YtpejjpecdkbleaaW.PrintLast
/-! #### WTab -/
/-! ### 50. A region's order in a table, made once a region: each step asks the table (numbers alone), not the operations -/
namespace Go.Proofs.YtpejjpecdkbleaaW.PrintLast
open Go.Proofs.YtpejjpecdkbleaaW.PrintWords (Aside0)
def needsOf (md:Region.Mode) (o:Oper):List Nat:=(o.after.toList.filter (fun e=>Region.binds md e)).map (fun e=>e.on)
def clashOf (md:Region.Mode) (ops:Array Oper) (i:Nat) (oi:Oper):List Nat:=(List.range ops.size).filter fun j=>!(j == i) && match ops[j]? with
 | some oj=>!(oj.after.any (fun e=>Region.binds md e && e.on == i) || oi.apart ops oj)
 | none=>false
/-- No select in it; for each operation: what must have come up before it, and what may not come up behind it if it is taken first. -/
def rtab (md:Region.Mode) (ops:Array Oper):Bool×List (List Nat×List Nat):=(Region.noSelect ops,(List.range ops.size).map fun i=>match ops[i]? with
 | some o=>(needsOf md o,clashOf md ops i o)
 | none=>([],[]))
def readyAt (T:List (List Nat×List Nat)) (l:List Bool) (i:Nat):Bool:=!l.getD i true && match T[i]? with
 | some r=>r.1.all (fun j=>l.getD j false)
 | none=>false
def readyT (T:List (List Nat×List Nat)) (l:List Bool):List Nat:=(List.range T.length).filter (readyAt T l)
def freeT (T:List (List Nat×List Nat)) (l:List Bool) (i:Nat):Bool:=match T[i]? with
 | some r=>r.2.all (fun j=>l.getD j true)
 | none=>false
def closedT (T:List (List Nat×List Nat)) (l:List Bool):Bool:=(List.range T.length).all fun j=>!l.getD j false || match T[j]? with
 | some r=>r.1.all (fun k=>l.getD k false)
 | none=>true
def reachT (T:List (List Nat×List Nat)) (i:Nat):Nat→Nat→Bool
 | 0,_=>false
 | fuel+1,d=>match T[d]? with
  | some r=>r.1.any fun j=>j == i || reachT T i fuel j
  | none=>false
def lastT (T:List (List Nat×List Nat)) (l:List Bool) (ds:List Nat) (i:Nat):Bool:=ds.all fun d=>l.getD d true || reachT T i T.length d
section
variable {md:Region.Mode} {ops:Array Oper} {T:Bool×List (List Nat×List Nat)} {l l' li lj lk:Array Bool} {ds:List Nat} {i j k:Nat}
theorem gd (l:Array Bool) (j:Nat) (b:Bool):l.getD j b=l.toList.getD j b:=by simp [Array.getD_eq_getD_getElem?,List.getD_eq_getElem?_getD]
theorem needs_all (o:Oper) (p:Nat→Bool):o.after.all (fun e=>!Region.binds md e || p e.on)=(needsOf md o).all p:=by
 unfold needsOf
 rw [← Array.all_toList]
 induction o.after.toList with
 | nil=>rfl
 | cons e r ih =>
  rw [List.all_cons,ih,List.filter_cons]
  cases h:Region.binds md e <;> simp
theorem needs_any (o:Oper) (p:Nat→Bool):o.after.any (fun e=>Region.binds md e && p e.on)=(needsOf md o).any p:=by
 unfold needsOf
 rw [← Array.any_toList]
 induction o.after.toList with
 | nil=>rfl
 | cons e r ih =>
  rw [List.any_cons,ih,List.filter_cons]
  cases h:Region.binds md e <;> simp
theorem rtab_length:(rtab md ops).2.length=ops.size:=by simp [rtab]
theorem rtab_some {o:Oper} (h:ops[i]?=some o):(rtab md ops).2[i]?=some (needsOf md o,clashOf md ops i o):=by
 have hi:=(Array.getElem?_eq_some_iff.1 h).1
 unfold rtab
 rw [List.getElem?_map,List.getElem?_range hi,Option.map_some,h]
theorem rtab_none (h:ops[i]?=none):(rtab md ops).2[i]?=none:=by
 have hi:ops.size≤i:=Array.getElem?_eq_none_iff.1 h
 exact List.getElem?_eq_none (by rw [rtab_length];exact hi)
theorem readyAt_eq:readyAt (rtab md ops).2 l.toList i=(!l.getD i true && ((ops[i]?).map (·.after.all fun e=>!Region.binds md e || l.getD e.on false)).getD false):=by
 unfold readyAt
 rw [gd]
 cases h:ops[i]? with
 | none=>rw [rtab_none h];rfl
 | some o =>
  rw [rtab_some h]
  simp only [Option.map_some,Option.getD_some]
  rw [← needs_all]
  simp only [gd]
theorem ready_eq:Region.ready md ops l=readyT (rtab md ops).2 l.toList:=by
 unfold Region.ready readyT
 rw [rtab_length]
 refine List.filter_congr (fun i _=>?_)
 rw [readyAt_eq]
theorem free_eq:Region.free md ops l i=freeT (rtab md ops).2 l.toList i:=by
 unfold Region.free freeT
 cases h:ops[i]? with
 | none=>rw [rtab_none h]
 | some oi =>
  rw [rtab_some h]
  simp only [clashOf]
  rw [List.all_filter]
  congr 1
  funext j
  rw [gd]
  cases hj:ops[j]? with
  | none=>cases (j == i) <;> cases (l.toList.getD j true) <;> simp
  | some oj =>
   cases (j == i) <;> cases (l.toList.getD j true) <;> cases (oj.after.any (fun e=>Region.binds md e && e.on == i) || oi.apart ops oj) <;> simp_all
theorem closed_eq:Region.closedB md ops l=closedT (rtab md ops).2 l.toList:=by
 unfold Region.closedB closedT
 rw [rtab_length]
 congr 1
 funext j
 rw [gd]
 cases h:ops[j]? with
 | none=>rw [rtab_none h]
 | some o =>
  rw [rtab_some h]
  simp only
  rw [← needs_all]
  simp only [gd]
theorem reach_eq:∀ (fuel d:Nat),Region.reachB md ops i fuel d=reachT (rtab md ops).2 i fuel d
 | 0,_=>rfl
 | fuel+1,d=>by
  unfold Region.reachB reachT
  cases h:ops[d]? with
  | none=>rw [rtab_none h]
  | some o =>
   rw [rtab_some h]
   simp only
   rw [← needs_any]
   congr 1
   funext e
   rw [reach_eq fuel]
theorem last_eq:Region.lastB md ops l ds i=lastT (rtab md ops).2 l.toList ds i:=by
 unfold Region.lastB lastT
 rw [rtab_length]
 congr 1
 funext d
 rw [gd,reach_eq]
theorem readyAt_mem (h:readyAt T.2 l.toList i=true) (hT:rtab md ops=T):(Region.ready md ops l).contains i=true:=by
 subst hT
 rw [ready_eq]
 unfold readyT
 rw [List.contains_iff_mem,List.mem_filter,List.mem_range]
 refine ⟨?_,h⟩
 unfold readyAt at h
 rw [Bool.and_eq_true] at h
 cases hq:(rtab md ops).2[i]? with
 | none=>rw [hq] at h;simp at h
 | some r=>exact (List.getElem?_eq_some_iff.1 hq).1
theorem set_of (h:(l.toList.set i true == l'.toList)=true):(l.setIfInBounds i true == l')=true:=by
 rw [beq_iff_eq] at h ⊢
 apply Array.ext'
 rw [Array.toList_setIfInBounds]
 exact h
def anyT (T:Bool×List (List Nat×List Nat)) (l l':List Bool) (i:Nat):Bool:=T.1 && freeT T.2 l i && readyAt T.2 l i && (l.set i true == l')
/-- pure_'s condition out of the table. -/
theorem any_of (hT:rtab md ops=T) (h:anyT T l.toList l'.toList i=true):anyB md ops l l' i=true:=by
 simp only [anyT,Bool.and_eq_true] at h
 obtain ⟨⟨⟨h1,h2⟩,h3⟩,h4⟩:=h
 have h5:=readyAt_mem h3 hT
 have h6:=set_of h4
 subst hT
 simp only [anyB,Bool.and_eq_true]
 exact ⟨⟨⟨h1,by rw [free_eq];exact h2⟩,h5⟩,h6⟩
def takeT (T:Bool×List (List Nat×List Nat)) (ds:List Nat) (l l':List Bool) (i:Nat):Bool:=T.1 && freeT T.2 l i && readyAt T.2 l i && closedT T.2 l && lastT T.2 l ds i && (l.set i true == l')
/-- take_'s. -/
theorem take_of (hT:rtab md ops=T) (h:takeT T ds l.toList l'.toList i=true):takeB md ops ds l l' i=true:=by
 simp only [takeT,Bool.and_eq_true] at h
 obtain ⟨⟨⟨⟨⟨h1,h2⟩,h3⟩,h4⟩,h5⟩,h6⟩:=h
 have h7:=readyAt_mem h3 hT
 have h8:=set_of h6
 subst hT
 simp only [takeB,Bool.and_eq_true]
 exact ⟨⟨⟨⟨⟨h1,by rw [free_eq];exact h2⟩,h7⟩,by rw [closed_eq];exact h4⟩,by rw [last_eq];exact h5⟩,h8⟩
/-- one_'s and last_'s. -/
theorem one_of (hT:rtab md ops=T) (h:(readyT T.2 l.toList == [i] && l.toList.set i true == l'.toList)=true):readyB md ops l l' i=true:=by
 simp only [Bool.and_eq_true] at h
 obtain ⟨h1,h2⟩:=h
 subst hT
 simp only [readyB,Bool.and_eq_true]
 exact ⟨by rw [ready_eq];exact h1,set_of h2⟩
/-- done_'s. -/
theorem done_of (hT:rtab md ops=T) (h:(readyT T.2 l.toList == [])=true):(Region.ready md ops l == [])=true:=by
 subst hT
 rw [ready_eq]
 exact h
/-- What d waits for, as_ bits: told in the table (B), checked in one pass: each bit is a need of d, or a bit of an earlier need's. -/
def upM (B:List Nat) (d:Nat):List Nat→Nat
 | []=>0
 | n :: r=>(2 ^ n ||| (if n < d then B.getD n 0 else 0)) ||| upM B d r
def waitsOk (T:List (List Nat×List Nat)) (B:List Nat):Bool:=(List.range T.length).all fun d=>match T[d]? with
 | some r=>(B.getD d 0 ||| upM B d r.1) == upM B d r.1
 | none=>false
theorem upM_bit {B:List Nat} {d i:Nat}:∀ {ns:List Nat},(upM B d ns).testBit i=true→∃ n∈ns,n=i∨(n < d∧(B.getD n 0).testBit i=true)
 | [],h=>by simp [upM] at h
 | n :: r,h=>by
  unfold upM at h
  rw [Nat.testBit_or,Nat.testBit_or,Bool.or_eq_true,Bool.or_eq_true] at h
  rcases h with (h|h)|h
  ·
   rw [Nat.testBit_two_pow] at h
   exact ⟨n,List.mem_cons_self,.inl (by simpa using h)⟩
  ·
   by_cases hn:n < d
   ·
    rw [if_pos hn] at h
    exact ⟨n,List.mem_cons_self,.inr ⟨hn,h⟩⟩
   ·
    rw [if_neg hn] at h
    simp at h
  ·
   obtain ⟨m,hm,h2⟩:=upM_bit h
   exact ⟨m,List.mem_cons_of_mem _ hm,h2⟩
theorem reach_bit {T:List (List Nat×List Nat)} {B:List Nat} (hB:waitsOk T B=true):∀ (fuel d:Nat),d < fuel→d < T.length→(B.getD d 0).testBit i=true→reachT T i fuel d=true
 | 0,d,h,_,_=>by omega
 | fuel+1,d,h,hd,hb=>by
  have h1:=List.all_eq_true.1 hB d (List.mem_range.2 hd)
  cases hr:T[d]? with
  | none=>rw [hr] at h1;simp at h1
  | some r =>
   rw [hr] at h1
   simp only [beq_iff_eq] at h1
   have h2:(upM B d r.1).testBit i=true:=by rw [← h1,Nat.testBit_or,hb,Bool.true_or]
   obtain ⟨n,hn,h3⟩:=upM_bit h2
   unfold reachT
   rw [hr]
   simp only
   rw [List.any_eq_true]
   refine ⟨n,hn,?_⟩
   rcases h3 with rfl|⟨h4,h5⟩
   ·
    simp
   ·
    rw [reach_bit hB fuel n (by omega) (by omega) h5,Bool.or_true]
def lastW (T:List (List Nat×List Nat)) (B:List Nat) (l:List Bool) (ds:List Nat) (i:Nat):Bool:=ds.all fun d=>l.getD d true || (decide (d < T.length) && (B.getD d 0).testBit i)
def takeW (T:Bool×List (List Nat×List Nat)) (B:List Nat) (ds:List Nat) (l l':List Bool) (i:Nat):Bool:=T.1 && freeT T.2 l i && readyAt T.2 l i && closedT T.2 l && lastW T.2 B l ds i && (l.set i true == l')
/-- take_'s, by the bits. -/
theorem take_ofW {B:List Nat} (hT:rtab md ops=T) (hB:waitsOk T.2 B=true) (h:takeW T B ds l.toList l'.toList i=true):takeB md ops ds l l' i=true:=by
 refine take_of hT ?_
 simp only [takeW,takeT,Bool.and_eq_true] at h ⊢
 obtain ⟨⟨⟨⟨⟨h1,h2⟩,h3⟩,h4⟩,h5⟩,h6⟩:=h
 refine ⟨⟨⟨⟨⟨h1,h2⟩,h3⟩,h4⟩,?_⟩,h6⟩
 unfold lastW at h5
 unfold lastT
 rw [List.all_eq_true] at h5 ⊢
 intro d hd
 have h7:=h5 d hd
 rw [Bool.or_eq_true,Bool.and_eq_true,decide_eq_true_eq] at h7
 rcases h7 with h7|⟨h8,h9⟩
 ·
  rw [h7,Bool.true_or]
 ·
  rw [reach_bit hB _ d h8 h8 h9,Bool.or_true]
theorem with_tabW {P:Program} {Q:Exit→Act→World→Prop} {S:World→Prop} {n:Nat} {a:Act} {w:World} {B:List Nat} (hT:rtab md ops=T) (hB:waitsOk T.2 B=true) (h:Aside0 (rtab md ops=T)→Aside0 (waitsOk T.2 B=true)→wpAnyLast P md ops Q S ds n l a w):wpAnyLast P md ops Q S ds n l a w:=h ⟨hT⟩ ⟨hB⟩
end
/-- The operations of a region, by its number. -/
def opsIn:Code→Nat→Option (Array Oper)
 | .region id ops _,k=>if id == k then some ops else none
 | .seq a b,k=>match opsIn a k with
  | some o=>some o
  | none=>opsIn b k
 | .cond _ a b,k=>match opsIn a k with
  | some o=>some o
  | none=>opsIn b k
 | .block _ c,k=>opsIn c k
 | .loop c,k=>opsIn c k
 | .scope c,k=>opsIn c k
 | .rangeFunc _ _ a b,k=>match opsIn a k with
  | some o=>some o
  | none=>opsIn b k
 | _,_=>none
def opsOf (f:Func) (k:Nat):Array Oper:=((f.body.bind fun c=>opsIn c k)).getD #[]
end Go.Proofs.YtpejjpecdkbleaaW.PrintLast
/-! #### WFour -/
/-! ### 56. Four, five, six operations that may come up next, in any order -/
namespace Go.Proofs.YtpejjpecdkbleaaW.PrintLast
section
variable {P:Program} {ops:Array Oper} {Q:Exit→Act→World→Prop} {md:Region.Mode} {S:World→Prop} {ds:List Nat} {T:Bool×List (List Nat×List Nat)}
end
end Go.Proofs.YtpejjpecdkbleaaW.PrintLast
/-! #### WQPut -/
/-! ### 39. Stores into a row that may begin inside its block (Q): Q_form, Q_elem, Q_seg; scalars: Q_cell, Q_putg -/
namespace Go.Proofs.YtpejjpecdkbleaaW.PrintWords
open Go.RowKit
namespace Kd
section
variable {α:Type} {d:Kd α} {e base g o n cap:Nat} {ok okp:Nat→Prop} {w W:World} {v:Value} {xs:List α}
theorem Q_form (h:d.Q e w base ok v xs) (hp:0 < xs.length):∃ g o cap,v=.slice (some ⟨g,o,none⟩) xs.length cap∧base≤g∧g < w.heap.size∧∃ cells,w.heap[g]?=some (.cells cells e (0,0)):=by
 obtain ⟨h0,inner,hq,hr⟩:=h
 rcases hq.2 with ⟨h1,_⟩|⟨g,off,cap,cur,rfl,hb,hh,r⟩
 ·
  omega
 ·
  exact ⟨g,off * d.sz,cap,rfl,hb,blk_lt hh,cur,hh⟩
/-- Element i of such a row: its cells. -/
theorem Q_elem (h:d.Q e W base ok (.slice (some ⟨g,o,none⟩) n cap) xs) (z:α) (i:Int) (h0:0≤i) (h1:i < n) :
  ∃ c,c.length=d.sz∧d.M W base (fun k=>ok k∧k≠g) (xs.getD i.toNat z) c∧(∀ j u,c[j]?=some u→W.cell? ⟨g,o+i.toNat * d.sz+j,none⟩=some u)∧∀ j,W.frozen? ⟨g,o+i.toNat * d.sz+j,none⟩=false:=by
 obtain ⟨hn,hnc,hC⟩:=Q_reads' h
 obtain ⟨_,inner,ho,hr⟩:=h
 have hil:i.toNat < xs.length:=by omega
 have hseg:i.toNat * d.sz+d.sz≤inner.length:=by rw [hr.1,← Nat.succ_mul];exact Nat.mul_le_mul_right _ hil
 have hM:=hr.2 i.toNat _ (List.getElem?_eq_getElem hil)
 refine ⟨(inner.drop (i.toNat * d.sz)).take d.sz,by rw [List.length_take,List.length_drop];omega,?_,fun j u hu=>?_,fun j=>?_⟩
 ·
  rw [List.getD_eq_getElem?_getD,List.getElem?_eq_getElem hil]
  exact d.M_mono (fun k hk=>⟨hk.1,fun he=>hk.2 (by rw [he];simp [Value.ownBlock])⟩) hM
 ·
  rw [List.getElem?_take] at hu
  split at hu
  ·
   rw [List.getElem?_drop] at hu
   subst hn
   obtain ⟨ad,he,hc⟩:=q_cells ho (by omega)
   injection he with he
   subst he
   have:=hc _ u hu
   rwa [add_at,← Nat.add_assoc] at this
  ·
   cases hu
 ·
  obtain ⟨_,cells,hc⟩:=q_typed ho g (by simp [Value.ownBlock])
  exact blk_frozen hc _
/-- A run of cells of element i is written: element i is x' then. c: the element's cells before (Q_elem). -/
theorem Q_seg (h:d.Q e W base ok (.slice (some ⟨g,o,none⟩) n cap) xs) (i:Int) (h0:0≤i) (h1:i < n) {c seg:List Value} {j:Nat} (hcl:c.length=d.sz) (hcc:∀ j u,c[j]?=some u→W.cell? ⟨g,o+i.toNat * d.sz+j,none⟩=some u)
  (hj:j+seg.length≤d.sz) {x':α} (hM:d.M W base okp x' (c.take j ++ seg ++ c.drop (j+seg.length))) (hokp:∀ k,okp k→ok k∧k≠g) :
  d.Q e (W.setCells g (o+i.toNat * d.sz+j) seg) base ok (.slice (some ⟨g,o,none⟩) n cap) (xs.set i.toNat x')∧W.grownBy (W.setCells g (o+i.toNat * d.sz+j) seg) (some g):=by
 obtain ⟨hn,hnc,_⟩:=Q_reads' h
 obtain ⟨hok,inner,ho,hr⟩:=h
 have hil:i.toNat < xs.length:=by omega
 have hseg:i.toNat * d.sz+d.sz≤inner.length:=by rw [hr.1,← Nat.succ_mul];exact Nat.mul_le_mul_right _ hil
 have hin:inner.length=n * d.sz:=by rw [hr.1,hn]
 obtain ⟨ho1,ho2⟩:=ho
 rcases ho2 with ⟨hz,_⟩|⟨g',off,cap',cur,hv,hb,hh,hnc',hcm,hcs,ht⟩
 ·
  omega
 injection hv with ha _ hc
 injection ha with ha
 injection ha with hg hoff
 subst hg;subst hc;subst hoff
 have hcap:n * d.sz≤cap * d.sz:=Nat.mul_le_mul_right _ hnc
 have hcs':cur.size=off * d.sz+cap * d.sz:=by rw [hcs,Nat.add_mul]
 have hfit:off * d.sz+i.toNat * d.sz+j+seg.length≤cur.size:=by omega
 obtain ⟨cur',h3,h4,h5⟩:=setCells_row seg (off * d.sz+i.toNat * d.sz+j) W cur hh hfit
 obtain ⟨s1,s2,s3,s4⟩:=setCells_same g seg (off * d.sz+i.toNat * d.sz+j) W
 have hfar:∀ k,k≠g→(W.setCells g (off * d.sz+i.toNat * d.sz+j) seg).heap[k]?=W.heap[k]?:=fun k hk=>setCells_far seg _ k hk
 rw [← hn] at ht
 -- the row's cells are the block's from off on
 have hat:∀ q,q < n * d.sz→cur.toList[off * d.sz+q]?=inner[q]?:=by
  intro q hq
  rw [← ht,List.getElem?_take,if_pos hq,List.getElem?_drop]
 have hcin:∀ q,q < d.sz→c[q]?=inner[i.toNat * d.sz+q]?:=by
  intro q hq
  have hq':q < c.length:=by omega
  have h6:=hcc q _ (List.getElem?_eq_getElem hq')
  rw [cell_of_row W g _ cur e (0,0) hh] at h6
  rw [List.getElem?_eq_getElem hq',← h6,← hat _ (by omega),Array.getElem?_toList,Nat.add_assoc]
 refine ⟨⟨hok,inner.take (i.toNat * d.sz+j) ++ seg ++ inner.drop (i.toNat * d.sz+j+seg.length),⟨?_,.inr ⟨g,off,cap,cur',by rw [List.length_set,hn],hb,h3,by rw [List.length_set,← hn];exact hnc,hcm,by rw [h4,hcs],?_⟩⟩,?_⟩,
  ⟨s1,s2,s3,by rw [s4];exact Nat.le_refl _,fun k _ hk=>hfar k (fun he=>hk (by rw [he]))⟩⟩
 ·
  rw [List.length_set]
  simp only [List.length_append,List.length_take,List.length_drop]
  rw [hr.1] at hseg ⊢
  omega
 ·
  rw [List.length_set,← hn]
  apply List.ext_getElem?
  intro q
  rw [List.getElem?_take,List.getElem?_drop,h5]
  rw [seg_get cur.toList seg (off * d.sz+i.toNat * d.sz+j) (by rw [Array.length_toList];omega) (off * d.sz+q),seg_get inner seg (i.toNat * d.sz+j) (by omega) q]
  by_cases hq:q < n * d.sz
  ·
   rw [if_pos hq]
   by_cases hq1:q < i.toNat * d.sz+j
   ·
    rw [if_pos (by omega),if_pos hq1,hat q hq]
   ·
    rw [if_neg (by omega),if_neg hq1]
    by_cases hq2:q < i.toNat * d.sz+j+seg.length
    ·
     rw [if_pos (by omega),if_pos hq2]
     congr 1
     omega
    ·
     rw [if_neg (by omega),if_neg hq2,hat q hq]
  ·
   rw [if_neg hq,if_neg (by omega),if_neg (by omega),List.getElem?_eq_none (by omega)]
 ·
  refine ⟨?_,fun m p hm=>?_⟩
  ·
   rw [List.length_set]
   simp only [List.length_append,List.length_take,List.length_drop]
   rw [hr.1] at hseg ⊢
   omega
  ·
   have hml:m < xs.length:=by
    have:=(List.getElem?_eq_some_iff.1 hm).1
    rwa [List.length_set] at this
   have hmfit:m * d.sz+d.sz≤inner.length:=by rw [hr.1,← Nat.succ_mul];exact Nat.mul_le_mul_right _ hml
   have hgo:some g=(Value.slice (some ⟨g,off * d.sz,none⟩) n cap).ownBlock:=by simp [Value.ownBlock]
   by_cases hmi:m=i.toNat
   ·
    subst hmi
    rw [List.getElem?_set_self (by omega)] at hm
    injection hm with hm
    subst hm
    have hcells:((inner.take (i.toNat * d.sz+j) ++ seg ++ inner.drop (i.toNat * d.sz+j+seg.length)).drop (i.toNat * d.sz)).take d.sz=c.take j ++ seg ++ c.drop (j+seg.length):=by
     apply List.ext_getElem?
     intro q
     rw [List.getElem?_take,List.getElem?_drop,seg_get inner seg _ (by omega),seg_get c seg j (by omega) q]
     by_cases hq:q < d.sz
     ·
      rw [if_pos hq,hcin q hq]
      by_cases hq1:q < j
      ·
       rw [if_pos (by omega),if_pos hq1]
      ·
       rw [if_neg (by omega),if_neg hq1]
       by_cases hq2:q < j+seg.length
       ·
        rw [if_pos (by omega),if_pos hq2]
        congr 1
        omega
       ·
        rw [if_neg (by omega),if_neg hq2]
     ·
      rw [if_neg hq,if_neg (by omega),if_neg (by omega),List.getElem?_eq_none (by omega)]
    rw [hcells]
    refine d.M_mono (fun k hk=>?_) (d.M_move (w1:=W.setCells g (off * d.sz+i.toNat * d.sz+j) seg) (fun k hk=>hfar k (hokp k hk).2) hM)
    exact ⟨(hokp k hk).1,fun he=>(hokp k hk).2 (by rw [← hgo] at he;injection he)⟩
   ·
    rw [List.getElem?_set_ne (by omega)] at hm
    have hold:=hr.2 m p hm
    have hcells:((inner.take (i.toNat * d.sz+j) ++ seg ++ inner.drop (i.toNat * d.sz+j+seg.length)).drop (m * d.sz)).take d.sz=(inner.drop (m * d.sz)).take d.sz:=by
     apply List.ext_getElem?
     intro q
     rw [List.getElem?_take,List.getElem?_take,List.getElem?_drop,List.getElem?_drop,seg_get inner seg _ (by omega)]
     by_cases hq:q < d.sz
     ·
      rw [if_pos hq,if_pos hq]
      rcases Nat.lt_or_gt_of_ne hmi with hlt|hgt
      ·
       have:m * d.sz+d.sz≤i.toNat * d.sz:=by rw [← Nat.succ_mul];exact Nat.mul_le_mul_right _ hlt
       rw [if_pos (by omega)]
      ·
       have:i.toNat * d.sz+d.sz≤m * d.sz:=by rw [← Nat.succ_mul];exact Nat.mul_le_mul_right _ hgt
       rw [if_neg (by omega),if_neg (by omega)]
     ·
      rw [if_neg hq,if_neg hq]
    rw [hcells]
    refine d.M_move (fun k hk=>hfar k (fun he=>hk.2 (by rw [he];exact hgo))) hold
end
section
variable {α:Type} {enc:α→Value} {h1:∀ x,(enc x).oneCell'=true} {e base g o n cap:Nat} {ok:Nat→Prop} {W:World} {xs:List α}
theorem Q_cell (d:α) (h:(scalar enc h1).Q e W base ok (.slice (some ⟨g,o,none⟩) n cap) xs) (i:Int) (h0:0≤i) (hi:i < n):W.cell? ⟨g,o+i.toNat,none⟩=some (enc (rdOf d xs i))∧W.frozen? ⟨g,o+i.toNat,none⟩=false:=by
 obtain ⟨c,_,hM,hcc,hf⟩:=Q_elem h d i h0 hi
 have hM':c=[enc (xs.getD i.toNat d)]:=hM
 subst hM'
 have h2:=hcc 0 _ rfl
 have h3:=hf 0
 rw [show (scalar enc h1).sz=1 from rfl,Nat.mul_one,Nat.add_zero] at h2 h3
 exact ⟨h2,h3⟩
theorem Q_putg (h:(scalar enc h1).Q e W base ok (.slice (some ⟨g,o,none⟩) n cap) xs) (i:Int) (h0:0≤i) (hi:i < n) (x:α):(scalar enc h1).Q e (W.setCell ⟨g,o+i.toNat,none⟩ (enc x)) base ok (.slice (some ⟨g,o,none⟩) n cap) (xs.set i.toNat x)∧W.grownBy (W.setCell ⟨g,o+i.toNat,none⟩ (enc x)) (some g):=by
 have hp:0 < xs.length:=by have:=(Q_reads' h).1;omega
 obtain ⟨c,hcl,_,hcc,_⟩:=Q_elem h (xs[0]'hp) i h0 hi
 have h2:=Q_seg h i h0 hi (c:=c) (seg:=[enc x]) (j:=0) (okp:=fun _=>False) (x':=x) hcl hcc (Nat.le_refl 1) (by
  have hl:c.length=1:=hcl
  show c.take 0 ++ [enc x] ++ c.drop (0+1)=[enc x]
  rw [List.drop_eq_nil_of_le (by omega)]
  rfl) (fun _ hk=>hk.elim)
 rw [show (scalar enc h1).sz=1 from rfl,Nat.mul_one,Nat.add_zero] at h2
 exact h2
end
end Kd
end Go.Proofs.YtpejjpecdkbleaaW.PrintWords
/-! #### WApart -/
/-! ### 40. Elements whose inner rows lie apart: what is stored into one says nothing of the others.
   S: as_ R, with an owner function f (block to element's index). H: as_ S with a hole: of element i its cells alone are told, its blocks are oki. -/
namespace Go.Proofs.YtpejjpecdkbleaaW.PrintWords
open Go.RowKit
namespace Kd
/-- An element with its index: its blocks are those that f gives to it. -/
def tag {α:Type} (f:Nat→Nat) (d:Kd α):Kd (α×Nat) where
 sz:=d.sz
 E:=d.E
 K:=fun w x cs=>d.K w x.1 cs
 M:=fun w base ok x cs=>d.M w base (fun k=>ok k∧f k=x.2) x.1 cs
 K_len:=fun h=>d.K_len h
 K_one:=fun h=>d.K_one h
 K_below:=fun hb h=>d.K_below hb h
 K_of_M:=fun h=>d.K_of_M h
 M_mono:=fun hok h=>d.M_mono (fun k hk=>⟨hok k hk.1,hk.2⟩) h
 M_bound:=fun h=>d.M_mono (fun _ hk=>⟨⟨hk.1.1,hk.2⟩,hk.1.2⟩) (d.M_bound h)
 M_move:=fun hm h=>d.M_move (fun k hk=>hm k hk.1) h
 M_lower:=fun hb h=>d.M_lower hb h
/-- The cells themselves. -/
def raw (sz:Nat):Kd (List Value) where
 sz:=sz
 E:=[]
 K:=fun _ x cs=>cs=x∧cs.length=sz∧∀ u∈cs,u.oneCell'=true
 M:=fun _ _ _ x cs=>cs=x∧cs.length=sz∧∀ u∈cs,u.oneCell'=true
 K_len:=fun h=>h.2.1
 K_one:=fun h=>h.2.2
 K_below:=fun _ h=>h
 K_of_M:=fun h=>h
 M_mono:=fun _ h=>h
 M_bound:=fun h=>h
 M_move:=fun _ h=>h
 M_lower:=fun _ h=>h
/-- A row of elements (type e) of the call's own, no two of which lead to one block. -/
def S {α:Type} (d:Kd α) (e:Nat) (w:World) (base:Nat) (ok:Nat→Prop) (v:Value) (xs:List α):Prop:=∃ f,(tag f d).R e w base ok v xs.zipIdx
section
variable {α β:Type} {d:Kd α} {d':Kd β} {e e':Nat} {w w1 W:World} {base b:Nat} {ok ok' okv oku:Nat→Prop} {u v:Value} {xs:List α} {ys:List β}
theorem zip_at {xs:List α} {j:Nat} {p:α} (h:xs[j]?=some p):xs.zipIdx[j]?=some (p,j):=by rw [List.getElem?_zipIdx,h,Nat.zero_add];rfl
/-- A row whose elements lead to nothing: its blocks are its own one. -/
theorem R_tight (hE:d.E=[]) (h:d.R e w base ok v xs):d.R e w base (fun k=>some k=v.ownBlock) v xs:=by
 obtain ⟨h0,inner,ho,hr⟩:=h
 refine ⟨fun k hk=>hk.symm,inner,ho,hr.imp_ (fun p c hp=>d.M_mono (fun k hk=>?_) (d.M_bound hp))⟩
 obtain ⟨_,_,_,q,hq,_⟩:=hk
 rw [hE] at hq
 cases hq
theorem S_nil (d:Kd α) (e:Nat) (w:World) (base:Nat) (ok:Nat→Prop):S d e w base ok (.slice none 0 0) []:=⟨fun _=>0,R_nil _ _ _ _ _⟩
/-- The owner may be told anew where nothing is said. -/
theorem R_tag {f f':Nat→Nat} {zs:List (α×Nat)} (h:(tag f d).R e w base ok v zs) (hf:∀ k,ok k→k < w.heap.size→f' k=f k):(tag f' d).R e w base ok v zs:=by
 obtain ⟨h0,inner,ho,hr⟩:=R_bound h
 exact ⟨fun k hk=>(h0 k hk).1,inner,ho,hr.1,fun j p hj=>d.M_mono (fun k hk=>⟨⟨hk.1.1.1,hk.1.2⟩,(hf k hk.1.1.1 hk.1.1.2.2.1).trans hk.2⟩) (hr.2 j p hj)⟩
end
section
variable {α β:Type} {d:Kd α} {d':Kd β} {e e' g:Nat} {w w1 W:World} {base b:Nat} {ok ok' okv oku:Nat→Prop} {u v:Value} {xs:List α} {ys:List β}
end
/-! #### append, make, literals: the new element's blocks are none of the elder ones' -/
section
open Classical in
/-- The next element's blocks are okp: none is one of v's (okv). -/
theorem S_tag {α:Type} {d:Kd α} {e base:Nat} {okv:Nat→Prop} {w:World} {v:Value} {xs:List α} (h:S d e w base okv v xs) (m:Nat) (okp:Nat→Prop) (hap:∀ k,okp k→¬ okv k):∃ f,(∀ k,okp k→f k=m)∧(tag f d).R e w base okv v xs.zipIdx:=by
 obtain ⟨f,h⟩:=h
 exact ⟨fun k=>if okp k then m else f k,fun k hk=>if_pos hk,R_tag h (fun k hk _=>if_neg (fun h2=>hap k h2 hk))⟩
variable {P:Program} {ops:Array Oper} {rest:List Oper} {o:Oper} {a:Act} {Q:Exit→Act→World→Prop} {Kc:Act→World→Prop} {α:Type}
end
/-! #### a row with a hole: element i is lent, its blocks are oki; of it the row says its cells alone -/
/-- Element i is these cells; the others are d's. -/
def gap {α:Type} (f:Nat→Nat) (d:Kd α) (i:Nat) (c:List Value):Kd (α×Nat) where
 sz:=d.sz
 E:=d.E
 K:=fun w x cs=>(x.2=i→cs=c∧cs.length=d.sz∧∀ u∈cs,u.oneCell'=true)∧(x.2≠i→d.K w x.1 cs)
 M:=fun w base ok x cs=>(x.2=i→cs=c∧cs.length=d.sz∧∀ u∈cs,u.oneCell'=true)∧(x.2≠i→d.M w base (fun k=>ok k∧f k=x.2) x.1 cs)
 K_len:=fun {w x cs} h=>by
  by_cases hx:x.2=i
  ·
   exact (h.1 hx).2.1
  ·
   exact d.K_len (h.2 hx)
 K_one:=fun {w x cs} h=>by
  by_cases hx:x.2=i
  ·
   exact (h.1 hx).2.2
  ·
   exact d.K_one (h.2 hx)
 K_below:=fun hb h=>⟨h.1,fun hx=>d.K_below hb (h.2 hx)⟩
 K_of_M:=fun h=>⟨h.1,fun hx=>d.K_of_M (h.2 hx)⟩
 M_mono:=fun hok h=>⟨h.1,fun hx=>d.M_mono (fun k hk=>⟨hok k hk.1,hk.2⟩) (h.2 hx)⟩
 M_bound:=fun h=>⟨h.1,fun hx=>d.M_mono (fun _ hk=>⟨⟨hk.1.1,hk.2⟩,hk.1.2⟩) (d.M_bound (h.2 hx))⟩
 M_move:=fun hm h=>⟨h.1,fun hx=>d.M_move (fun k hk=>hm k hk.1) (h.2 hx)⟩
 M_lower:=fun hb h=>⟨h.1,fun hx=>d.M_lower hb (h.2 hx)⟩
def H {α:Type} (d:Kd α) (e:Nat) (w:World) (base:Nat) (ok:Nat→Prop) (v:Value) (xs:List α) (i:Int) (oki:Nat→Prop) (c:List Value):Prop :=
 (∀ k,oki k→ok k)∧∃ f,(gap f d i.toNat c).R e w base (fun k=>ok k∧¬ oki k) v xs.zipIdx
section
variable {α β:Type} {d:Kd α} {e e' g n cap:Nat} {w w1 W:World} {base:Nat} {ok ok' oki okp:Nat→Prop} {u v:Value} {xs:List α} {i:Int} {c:List Value}
open Classical in
/-- The element put back: its blocks are among those that were lent. -/
theorem H_back (h:H d e w base ok v xs i oki c) {x':α} (hM:d.M w base okp x' c) (hok:∀ k,okp k→oki k):S d e w base ok v (xs.set i.toNat x'):=by
 obtain ⟨ho,f,h0,inner,hown,hr⟩:=h
 refine ⟨fun k=>if oki k then i.toNat else f k,fun k hk=>(h0 k hk).1,inner,by rw [List.length_zipIdx,List.length_set];rw [List.length_zipIdx] at hown;exact hown,by have:=hr.1;rw [List.length_zipIdx] at this;rw [List.length_zipIdx,List.length_set];exact this,fun m p hm=>?_⟩
 rw [List.getElem?_zipIdx,Nat.zero_add] at hm
 obtain ⟨q,hq,rfl⟩:=Option.map_eq_some_iff.1 hm
 have hml:m < xs.length:=by
  have:=(List.getElem?_eq_some_iff.1 hq).1
  rwa [List.length_set] at this
 by_cases hmi:m=i.toNat
 ·
  subst hmi
  rw [List.getElem?_set_self hml] at hq
  injection hq with hq
  subst hq
  have hc:=((hr.2 i.toNat _ (zip_at (List.getElem?_eq_getElem hml))).1 rfl).1
  show d.M w base _ x' ((inner.drop (i.toNat * d.sz)).take d.sz)
  rw [show (inner.drop (i.toNat * d.sz)).take d.sz=c from hc]
  exact d.M_mono (fun k hk=>⟨⟨ho k (hok k hk),fun he=>(h0 k he.symm).2 (hok k hk)⟩,if_pos (hok k hk)⟩) hM
 ·
  rw [List.getElem?_set_ne (Ne.symm hmi)] at hq
  exact d.M_mono (fun k hk=>⟨⟨hk.1.1.1,hk.1.2⟩,(if_neg hk.1.1.2).trans hk.2⟩) ((hr.2 m (q,m) (zip_at hq)).2 hmi)
end
section
variable {P:Program} {ops:Array Oper} {rest:List Oper} {o:Oper} {a:Act} {Q:Exit→Act→World→Prop} {α:Type}
end
end Kd
end Go.Proofs.YtpejjpecdkbleaaW.PrintWords
/-! #### WArr -/
/-! ### 41. Arrays '[n]T' as_ values: a kind (a field, an element of a row), an element read, an element set -/
namespace Go.Proofs.YtpejjpecdkbleaaW.PrintWords
open Go.RowKit
namespace Kd
theorem reps_one {α:Type} {R:α→List Value→Prop} {size:Nat} {ps:List α} {cs:List Value} (h:Reps R size ps cs) (hs0:0 < size) (hR:∀ p c,R p c→∀ u∈c,u.oneCell'=true):∀ u∈cs,u.oneCell'=true:=by
 intro u hu
 obtain ⟨q,hq,rfl⟩:=List.mem_iff_getElem.1 hu
 have hql:q / size < ps.length:=by
  rw [Nat.div_lt_iff_lt_mul hs0,← h.1]
  exact hq
 refine hR _ _ (h.2 (q / size) _ (List.getElem?_eq_getElem hql)) _ ?_
 rw [List.mem_iff_getElem?]
 refine ⟨q % size,?_⟩
 rw [List.getElem?_take,if_pos (Nat.mod_lt _ hs0),List.getElem?_drop,Nat.mul_comm,Nat.div_add_mod,List.getElem?_eq_getElem hq]
/-- An array of n elements of kind d. -/
def arr {α:Type} (n:Nat) (d:Kd α) (hs:0 < d.sz):Kd (List α) where
 sz:=n * d.sz
 E:=d.E
 K:=fun w xs cs=>xs.length=n∧Reps (d.K w) d.sz xs cs
 M:=fun w base ok xs cs=>xs.length=n∧Reps (d.M w base ok) d.sz xs cs
 K_len:=fun h=>by rw [← h.1];exact h.2.1
 K_one:=fun h=>reps_one h.2 hs (fun _ _ hk=>d.K_one hk)
 K_below:=fun hb h=>⟨h.1,h.2.imp_ (fun _ _ hk=>d.K_below hb hk)⟩
 K_of_M:=fun h=>⟨h.1,h.2.imp_ (fun _ _ hk=>d.K_of_M hk)⟩
 M_mono:=fun hok h=>⟨h.1,h.2.imp_ (fun _ _ hk=>d.M_mono hok hk)⟩
 M_bound:=fun h=>⟨h.1,h.2.imp_ (fun _ _ hk=>d.M_bound hk)⟩
 M_move:=fun hm h=>⟨h.1,h.2.imp_ (fun _ _ hk=>d.M_move hm hk)⟩
 M_lower:=fun hb h=>⟨h.1,h.2.imp_ (fun _ _ hk=>d.M_lower hb hk)⟩
section
variable {α:Type} {n:Nat} {d:Kd α} {hs:0 < d.sz} {w:World} {base:Nat} {ok:Nat→Prop} {xs:List α} {cs:List Value}
end
section
variable {α:Type} {n:Nat} {enc:α→Value} {h1:∀ x,(enc x).oneCell'=true} {hs:0 < (scalar enc h1).sz} {w:World} {base:Nat} {ok:Nat→Prop} {xs:List α} {cs:List Value}
theorem reps_encs (h:Reps (fun (x:α) (cs:List Value)=>cs=[enc x]) 1 xs cs):cs=encs enc xs:=by
 apply List.ext_getElem?
 intro j
 have hl:=h.1
 rw [Nat.mul_one] at hl
 rcases Nat.lt_or_ge j xs.length with hj|hj
 ·
  have h2:=h.2 j _ (List.getElem?_eq_getElem hj)
  have hj':j < cs.length:=by omega
  rw [Nat.mul_one,List.drop_eq_getElem_cons hj'] at h2
  have h5:=congrArg List.head? h2
  rw [List.take_succ_cons] at h5
  have h4:cs[j]=enc xs[j]:=Option.some.inj h5
  rw [List.getElem?_eq_getElem hj',h4]
  simp [encs,List.getElem?_eq_getElem hj]
 ·
  rw [List.getElem?_eq_none (by omega),List.getElem?_eq_none (by rw [encs_length];omega)]
/-- An array of scalars: its cells are the elements'. -/
theorem arr_cells (h:(arr n (scalar enc h1) hs).K w xs cs):xs.length=n∧cs=encs enc xs:=⟨h.1,reps_encs h.2⟩
end
end Kd
end Go.Proofs.YtpejjpecdkbleaaW.PrintWords
/-! #### WZeros -/
/-! ### 42. append(v, make([]T, n)...): the operation comes as_ append with the number in the second place -/
namespace Go.Proofs.YtpejjpecdkbleaaW.PrintWords
open Go.RowKit
section
variable {P:Program}
end
namespace Kd
section
variable {P:Program} {ops:Array Oper} {rest:List Oper} {o:Oper} {a:Act} {Q:Exit→Act→World→Prop} {Kc:Act→World→Prop} {α:Type}
end
/-! #### the same for rows whose elements lie apart -/
section
variable {α:Type} {d:Kd α} {e:Nat} {w:World} {base:Nat} {ok:Nat→Prop} {v:Value} {xs:List α}
end
section
variable {P:Program} {ops:Array Oper} {rest:List Oper} {o:Oper} {a:Act} {Q:Exit→Act→World→Prop} {Kc:Act→World→Prop} {α:Type}
end
end Kd
end Go.Proofs.YtpejjpecdkbleaaW.PrintWords
/-! #### WFoot -/
/-! ### 43. What is read beside a state: it stays read whatever the state's calls turn ('∀ W', KeepBut w W' g none → d.C W' A n xs') -/
namespace Go.Proofs.YtpejjpecdkbleaaW.PrintWords
open Go.RowKit
namespace Kd
/-- What a kind reads lies in the blocks: nothing else of the world is looked at. -/
structure Heap {α:Type} (d:Kd α):Prop where
 K:∀ {w w1:World} {x:α} {cs:List Value},(∀ k,k < w.heap.size→w1.heap[k]?=w.heap[k]?)→d.K w x cs→d.K w1 x cs
theorem cell_heap {w w1:World} (hb:∀ k,k < w.heap.size→w1.heap[k]?=w.heap[k]?) {a:Addr} {v:Value} (h:w.cell? a=some v):w1.cell? a=some v:=by
 have:=hb a.block (World.block_lt_of_cell? w a h)
 simpa [World.cell?,this] using h
theorem Heap.C {α:Type} {d:Kd α} (hd:Heap d) {w w1:World} {A:Option Addr} {n:Nat} {xs:List α} (hb:∀ k,k < w.heap.size→w1.heap[k]?=w.heap[k]?) (h:d.C w A n xs):d.C w1 A n xs :=
 ⟨h.1,h.2.1,fun hn=>by
  obtain ⟨ad,e,hc⟩:=h.2.2 hn
  refine ⟨ad,e,fun j p hj=>?_⟩
  obtain ⟨c,hs,hr,hcell⟩:=hc j p hj
  exact ⟨c,hs,hd.K hb hr,fun i u hu=>cell_heap hb (hcell i u hu)⟩⟩
section
variable {α:Type} {d:Kd α} {e base g n c:Nat} {ok:Nat→Prop} {w w0 W:World} {A:Option Addr} {xs:List α}
end
end Kd
end Go.Proofs.YtpejjpecdkbleaaW.PrintWords
/-! #### WKept -/
/-! ### 45. What a call keeps: all but the blocks of S (the rows that it was given to write) and what is new since -/
namespace Go.Proofs.YtpejjpecdkbleaaW.PrintWords
open Go.RowKit
def Kept (w W:World) (S:Nat→Prop):Prop:=w.heap.size≤W.heap.size∧∀ i,i < w.heap.size→¬ S i→W.heap[i]?=w.heap[i]?
section
variable {w W W2:World} {S S2 S':Nat→Prop}
theorem Kept.refl (w:World) (S:Nat→Prop):Kept w w S:=⟨Nat.le_refl _,fun _ _ _=>rfl⟩
theorem Kept.of_below (h:Below w.heap.size w W) (S:Nat→Prop):Kept w W S:=⟨h.size,fun i hi _=>h.block i hi⟩
theorem Kept.mono (h:Kept w W S) (hs:∀ k,S k→S' k):Kept w W S':=⟨h.1,fun i hi hn=>h.2 i hi (fun hk=>hn (hs i hk))⟩
theorem Kept.then_ (h:Kept w W S) (k:Kept W W2 S2) (hs:∀ k,S2 k→S k∨w.heap.size≤k):Kept w W2 S :=
 ⟨Nat.le_trans h.1 k.1,fun i hi hn=>(k.2 i (Nat.lt_of_lt_of_le hi h.1) (fun h2=>(hs i h2).elim hn (fun h3=>by omega))).trans (h.2 i hi hn)⟩
theorem Kept.of_grown {row:Option Nat} (hg:W.grownBy W2 row) (h:Kept w W S) (hr:∀ k,row=some k→S k∨w.heap.size≤k):Kept w W2 S :=
 h.then_ (S2:=fun k=>row=some k) ⟨hg.size,fun i hi hn=>hg.block i hi (fun he=>hn he.symm)⟩ hr
theorem Kept.below (h:Kept w W S) (hb:Below W.heap.size W W2):Kept w W2 S:=h.then_ (Kept.of_below hb (fun _=>False)) (fun _ hk=>hk.elim)
theorem Kept.alloc (h:Kept w W S) (o:Obj):Kept w (W.alloc o) S:=h.below (below_alloc (Below.refl _ _) o)
theorem Kept.drew (h:Kept w W S):Kept w W.drew S:=h
theorem Kept.drewN (h:Kept w W S) (m:Nat):Kept w (W.drewN m) S:=h
theorem Kept.setCell (h:Kept w W S) {p:Addr} (hp:S p.block∨w.heap.size≤p.block) (u:Value):Kept w (W.setCell p u) S :=
 h.then_ (S2:=fun k=>k=p.block) ⟨by simp [World.setCell],fun i _ hn=>Below.heap_setCell W p u i hn⟩ (fun k hk=>by rw [hk];exact hp)
/-- A state's call that keeps all but the state's block. -/
theorem Kept.of_keep {g:Nat} (h:Kept w W S) (k:KeepBut W W2 g none) (hg:S g∨w.heap.size≤g):Kept w W2 S :=
 h.then_ (S2:=fun k=>k=g) ⟨k.1,fun i hi hn=>k.2 i hi hn (by simp)⟩ (fun k hk=>by rw [hk];exact hg)
/-- Beside a state: what was written is new since. -/
theorem Kept.keep {g:Nat} (h:KeepBut w W g none) (k:Kept W W2 S2) (hs:∀ k,S2 k→w.heap.size≤k):KeepBut w W2 g none :=
 ⟨Nat.le_trans h.1 k.1,fun i hi hg hr=>(k.2 i (Nat.lt_of_lt_of_le hi h.1) (fun h2=>by have:=hs i h2;omega)).trans (h.2 i hi hg hr)⟩
theorem blk_kept {g:Nat} {o:Obj} (hb:W.heap[g]?=some o) (hk:Kept W W2 S) (hne:¬ S g):W2.heap[g]?=some o:=(hk.2 g (blk_lt hb) hne).trans hb
end
namespace Kd
section
variable {α:Type} {d:Kd α} {e base n c:Nat} {ok oki S S2:Nat→Prop} {w w0 W W1 W2:World} {v:Value} {A:Option Addr} {xs:List α} {i:Int} {cs:List Value}
theorem R_kept (h:d.R e W base ok v xs) (hk:Kept W W2 S) (hne:∀ k,ok k→¬ S k):d.R e W2 base ok v xs:=R_step h (fun k ho hlt=>hk.2 k hlt (hne k ho))
/-- A row of the call's own, apart from what is written. -/
theorem C_kept_own (h:d.R e W base ok (.slice A n c) xs) (hok:∀ k,ok k→¬ S k):∀ W',Kept W W' S→d.C W' A n xs:=fun W' hk=>by
 have h2:=R_reads' (R_kept h hk hok)
 rw [h2.1]
 exact h2.2.2
theorem C_kept_now (h:∀ W',Kept w W' S→d.C W' A n xs) (hk:Kept w W S):d.C W A n xs:=h W hk
end
end Kd
end Go.Proofs.YtpejjpecdkbleaaW.PrintWords
/-! #### WShare -/
/-! ### 46. Values that share: what is only read, with the blocks it lies in (its footprint 'ok'): Foot, F (a row that is read), FK (an element's cells) -/
namespace Go.Proofs.YtpejjpecdkbleaaW.PrintWords
open Go.RowKit
/-- P holds in W and in every world that has W's blocks of ok. -/
def Foot (P:World→Prop) (W:World) (ok:Nat→Prop):Prop:=∀ W':World,(∀ k,ok k→k < W.heap.size→W'.heap[k]?=W.heap[k]?)→P W'
theorem heap_lt {W W1:World} {k:Nat} (h:W1.heap[k]?=W.heap[k]?) (hlt:k < W.heap.size):k < W1.heap.size:=by
 rw [Array.getElem?_eq_getElem hlt] at h
 exact (Array.getElem?_eq_some_iff.1 h).1
namespace Foot
variable {P Q:World→Prop} {W W1:World} {ok ok':Nat→Prop}
theorem now (h:Foot P W ok):P W:=h W (fun _ _ _=>rfl)
theorem mono (h:Foot P W ok) (hok:∀ k,ok k→ok' k):Foot P W ok':=fun W' hW=>h W' (fun k hk hlt=>hW k (hok k hk) hlt)
theorem bound (h:Foot P W ok):Foot P W (fun k=>ok k∧k < W.heap.size):=fun W' hW=>h W' (fun k hk hlt=>hW k ⟨hk,hlt⟩ hlt)
theorem step (h:Foot P W ok) (hm:∀ k,ok k→k < W.heap.size→W1.heap[k]?=W.heap[k]?):Foot P W1 ok:=fun W' hW=>h W' (fun k hk hlt=>(hW k hk (heap_lt (hm k hk hlt) hlt)).trans (hm k hk hlt))
theorem imp (h:Foot P W ok) (hi:∀ W',P W'→Q W'):Foot Q W ok:=fun W' hW=>hi W' (h W' hW)
/-- Moved, and still elder than what is new since W. -/
theorem old (h:Foot P W ok) (hb:Below W.heap.size W W1):Foot P W1 (fun k=>ok k∧k < W.heap.size):=(h.bound).step (fun k _ hlt=>hb.block k hlt)
end Foot
namespace Kd
/-- A row that is only read: what it leads to lies in ok. -/
def F {α:Type} (d:Kd α) (W:World) (ok:Nat→Prop) (A:Option Addr) (n:Nat) (xs:List α):Prop:=Foot (fun W=>d.C W A n xs) W ok
/-- An element's cells: what they lead to lies in ok. -/
def FK {α:Type} (d:Kd α) (W:World) (ok:Nat→Prop) (x:α) (c:List Value):Prop:=Foot (fun W=>d.K W x c) W ok
section
variable {α β:Type} {d:Kd α} {e base n n' cc g N:Nat} {ok ok' okp S:Nat→Prop} {w w0 w1 W W1:World} {A A':Option Addr} {u v v1:Value} {xs:List α} {xs':List β} {d':Kd β} {x:α} {c:List Value}
theorem F_nil (d:Kd α) (W:World) (ok:Nat→Prop):F d W ok none ([]:List α).length []:=fun W' _=>C_nil d W'
theorem FK_of_M (h:d.M W base ok x c):FK d W ok x c:=fun _ hW=>d.K_of_M (M_step h hW)
end
end Kd
end Go.Proofs.YtpejjpecdkbleaaW.PrintWords
/-! #### WN -/
/-! ### 47. N: a row of the call's own whose elements share (what they lead to is only read) -/
namespace Go.Proofs.YtpejjpecdkbleaaW.PrintWords
open Go.RowKit
namespace Kd
/-- The cells one behind the other, element by element. -/
def chunks (sz:Nat) (n:Nat) (inner:List Value):List (List Value):=(List.range n).map fun j=>(inner.drop (j * sz)).take sz
theorem chunks_length (sz n:Nat) (inner:List Value):(chunks sz n inner).length=n:=by simp [chunks]
theorem chunks_at {sz n:Nat} {inner:List Value} {j:Nat} (hj:j < n):(chunks sz n inner)[j]?=some ((inner.drop (j * sz)).take sz):=by simp [chunks,hj]
theorem chunks_get {sz n:Nat} {inner:List Value} {j:Nat} {c:List Value} (h:(chunks sz n inner)[j]?=some c):c=(inner.drop (j * sz)).take sz:=by
 have hj:j < n:=by have:=(List.getElem?_eq_some_iff.1 h).1;rwa [chunks_length] at this
 rw [chunks_at hj] at h
 injection h with h
 exact h.symm
theorem reps_raw {α:Type} {Rr:α→List Value→Prop} {sz:Nat} {xs:List α} {inner:List Value} (h:Reps Rr sz xs inner) (hR:∀ x c,Rr x c→c.length=sz∧∀ u∈c,u.oneCell'=true):Reps (fun x cs=>cs=x∧cs.length=sz∧∀ u∈cs,u.oneCell'=true) sz (chunks sz xs.length inner) inner:=by
 refine ⟨by rw [chunks_length];exact h.1,fun j p hj=>?_⟩
 have hjl:j < xs.length:=by have:=(List.getElem?_eq_some_iff.1 hj).1;rwa [chunks_length] at this
 have hp:=chunks_get hj
 exact ⟨hp.symm,hR _ _ (h.2 j _ (List.getElem?_eq_getElem hjl))⟩
section
variable {α:Type} {d:Kd α} {e base n cc g:Nat} {ok ok' okp S:Nat→Prop} {w w1 W W1:World} {A:Option Addr} {u v v1:Value} {xs:List α} {x:α} {c:List Value}
/-- A row of elements (type e) of the call's own; what the elements lead to is only read, and is not this row. -/
def N {α:Type} (d:Kd α) (e:Nat) (w:World) (base:Nat) (ok:Nat→Prop) (v:Value) (xs:List α):Prop :=
 (∀ k,v.ownBlock=some k→ok k)∧∃ rows:List (List Value),rows.length=xs.length∧(raw d.sz).R e w base (fun k=>some k=v.ownBlock) v rows∧∀ (j:Nat) (x:α) (c:List Value),xs[j]?=some x→rows[j]?=some c→FK d w (fun k=>ok k∧some k≠v.ownBlock) x c
theorem R_N (h:d.R e w base ok v xs):N d e w base ok v xs:=by
 obtain ⟨h0,inner,ho,hr⟩:=h
 refine ⟨h0,chunks d.sz xs.length inner,chunks_length _ _ _,⟨fun k hk=>hk.symm,inner,by rw [chunks_length];exact ho,reps_raw hr (fun x c hp=>⟨d.K_len (d.K_of_M hp),d.K_one (d.K_of_M hp)⟩)⟩,fun j x c hx hc=>?_⟩
 rw [chunks_get hc]
 exact FK_of_M (hr.2 j x hx)
theorem N_nil (d:Kd α) (e:Nat) (w:World) (base:Nat) (ok:Nat→Prop):N d e w base ok (.slice none 0 0) []:=R_N (R_nil _ _ _ _ _)
end
end Kd
end Go.Proofs.YtpejjpecdkbleaaW.PrintWords
/-! #### WFootNe -/
/-! ### 52. A row that stays read whatever happens to a block (a set of blocks) doesn't lie there -/
namespace Go.Proofs.YtpejjpecdkbleaaW.PrintWords
open Go.RowKit
namespace Kd
section
variable {α:Type} {d:Kd α} {W:World} {g n:Nat} {S ok:Nat→Prop} {A:Option Addr} {ad:Addr} {xs:List α}
theorem C_not_empty (h:d.C W (some ad) n xs) (hn:0 < n) (hs:0 < d.sz):W.cell? ad≠none:=by
 obtain ⟨ad',he,hc⟩:=h.2.2 hn
 injection he with he
 subst he
 obtain ⟨c,hcl,_,hcell⟩:=hc 0 _ (List.getElem?_eq_getElem (by rw [h.1];exact hn))
 have h1:=hcell 0 _ (List.getElem?_eq_getElem (by omega))
 rw [Nat.zero_mul,Nat.zero_add,Addr.add_zero'] at h1
 rw [h1]
 exact Option.some_ne_none _
/-- It lies in a block that stands. -/
theorem C_lt (h:d.C W (some ad) n xs) (hn:0 < n) (hs:0 < d.sz):ad.block < W.heap.size:=by
 cases hc:W.cell? ad with
 | none=>exact absurd hc (C_not_empty h hn hs)
 | some v=>exact World.block_lt_of_cell? W ad hc
theorem foot_lt (h:∀ W',KeepBut W W' g none→d.C W' (some ad) n xs) (hn:0 < n) (hs:0 < d.sz):ad.block < W.heap.size:=C_lt (h W (KeepBut.refl W g none)) hn hs
end
end Kd
end Go.Proofs.YtpejjpecdkbleaaW.PrintWords
/-! #### WAt -/
/-! ### 54. Behind orders that were drawn quietly: the same facts at the world's new name; a flat row's foot -/
namespace Go.Proofs.YtpejjpecdkbleaaW.PrintWords
open Go.RowKit
section
variable {w w' u:World} {m B g:Nat} {o:Obj} {row:Option Nat} {S:Nat→Prop} {a:Addr} {v:Value}
end
namespace Kd
section
variable {α:Type} {d:Kd α} {e base n m:Nat} {ok:Nat→Prop} {w w':World} {v:Value} {A:Option Addr} {xs:List α}
end
end Kd
end Go.Proofs.YtpejjpecdkbleaaW.PrintWords
/-! #### WEqStruct -/
/-! ### 53. '==' of structs as_ one Bool -/
namespace Go.Proofs.YtpejjpecdkbleaaW.PrintWords
open Go.RowKit
section
variable {P:Program} {d:Nat} {xs ys:Array Value} {f:Field} {fs:List Field} {a b:Value} {r s:Bool} {w:World}
/-- The last field that counts. -/
theorem eqf_last (hn : (f.name == "_") = false) (ha : (part f.type xs f.offset).run P w = .ok a w) (hb : (part f.type ys f.offset).run P w = .ok b w) (he : (Op.equalIn d f.type a b).run P w = .ok r w) : (Op.eqFields d xs ys [f]).run P w = .ok r w := by
 have hn' : f.name ≠ "_" := by simpa using hn
 simp only [Op.eqFields,if_pos hn',Sem.run_bind,ha,hb,he,Result.andThen_ok]
 cases r <;> simp
theorem eqf_cons (hn : (f.name == "_") = false) (ha : (part f.type xs f.offset).run P w = .ok a w) (hb : (part f.type ys f.offset).run P w = .ok b w) (he : (Op.equalIn d f.type a b).run P w = .ok r w) (hr : (Op.eqFields d xs ys fs).run P w = .ok s w) : (Op.eqFields d xs ys (f :: fs)).run P w = .ok (r && s) w := by
 have hn' : f.name ≠ "_" := by simpa using hn
 rw [Op.eqFields]
 simp only [if_pos hn',Sem.run_bind,ha,hb,he,Result.andThen_ok]
 cases r
 ·
  simp
 ·
  simpa using hr
theorem eqA_of {t:TypeId} {fs:Array Field} (hu:P.underlying t=some (.struct fs)) (hp:P.stoodInHeld t=false) (h:(Op.eqFields d xs ys fs.toList).run P w=.ok r w):(Op.equalIn (d+1) t (.agg xs) (.agg ys)).run P w=.ok r w:=by
 have hf:P.fieldsOf t=fs:=by simp [Program.fieldsOf,hu]
 rw [run_equalIn_struct (P:=P) w d t xs ys (by rw [hf];exact hu) hp,hf]
 exact h
end
end Go.Proofs.YtpejjpecdkbleaaW.PrintWords
/-! #### WRepsOne -/
/-! ### 55. Reps told from the front, no append: for rows of one-cell elements and of wider ones -/
namespace Go.Proofs.YtpejjpecdkbleaaW.PrintWords
/-- One cell an element. -/
theorem Reps.one {α:Type} {R:α→List Value→Prop} {ps:List α} {cs:List Value} {p:α} {v:Value} (hp:R p [v]) (h:Reps R 1 ps cs):Reps R 1 (p :: ps) (v :: cs):=by
 refine ⟨by simp [h.1],fun j q hq=>?_⟩
 cases j with
 | zero =>
  simp only [List.getElem?_cons_zero,Option.some.injEq] at hq
  subst hq
  simpa using hp
 | succ j =>
  simp only [List.getElem?_cons_succ] at hq
  have h1:=h.2 j q hq
  simpa [Nat.mul_one] using h1
/-- More cells an element: told apart by the cells' list. -/
theorem Reps.front {α:Type} {R:α→List Value→Prop} {size:Nat} {ps:List α} {cs c all:List Value} {p:α} (hp:R p c) (hc:c.length=size) (h:Reps R size ps cs) (ha:c ++ cs=all):Reps R size (p :: ps) all:=by
 subst ha
 refine ⟨by rw [List.length_append,hc,h.1,List.length_cons,Nat.succ_mul,Nat.add_comm],fun j q hq=>?_⟩
 cases j with
 | zero =>
  simp only [List.getElem?_cons_zero,Option.some.injEq] at hq
  subst hq
  rw [Nat.zero_mul,List.drop_zero,List.take_append_of_le_length (by omega),List.take_of_length_le (by omega)]
  exact hp
 | succ j =>
  simp only [List.getElem?_cons_succ] at hq
  have h1:=h.2 j q hq
  rw [Nat.succ_mul,List.drop_append,List.drop_of_length_le (by rw [hc];exact Nat.le_add_left _ _),List.nil_append,hc,Nat.add_sub_cancel]
  exact h1
theorem Reps.c2 {α:Type} {R:α→List Value→Prop} {ps:List α} {cs:List Value} {p:α} {va vb:Value} (hp:R p [va,vb]) (h:Reps R 2 ps cs):Reps R 2 (p :: ps) (va :: vb :: cs):=Reps.front hp rfl h rfl
theorem Reps.c3 {α:Type} {R:α→List Value→Prop} {ps:List α} {cs:List Value} {p:α} {va vb vc:Value} (hp:R p [va,vb,vc]) (h:Reps R 3 ps cs):Reps R 3 (p :: ps) (va :: vb :: vc :: cs):=Reps.front hp rfl h rfl
theorem Reps.c4 {α:Type} {R:α→List Value→Prop} {ps:List α} {cs:List Value} {p:α} {va vb vc vd:Value} (hp:R p [va,vb,vc,vd]) (h:Reps R 4 ps cs):Reps R 4 (p :: ps) (va :: vb :: vc :: vd :: cs):=Reps.front hp rfl h rfl
theorem Reps.c5 {α:Type} {R:α→List Value→Prop} {ps:List α} {cs:List Value} {p:α} {va vb vc vd ve:Value} (hp:R p [va,vb,vc,vd,ve]) (h:Reps R 5 ps cs):Reps R 5 (p :: ps) (va :: vb :: vc :: vd :: ve :: cs):=Reps.front hp rfl h rfl
theorem Reps.c6 {α:Type} {R:α→List Value→Prop} {ps:List α} {cs:List Value} {p:α} {va vb vc vd ve vf:Value} (hp:R p [va,vb,vc,vd,ve,vf]) (h:Reps R 6 ps cs):Reps R 6 (p :: ps) (va :: vb :: vc :: vd :: ve :: vf :: cs):=Reps.front hp rfl h rfl
theorem Reps.c7 {α:Type} {R:α→List Value→Prop} {ps:List α} {cs:List Value} {p:α} {va vb vc vd ve vf vg:Value} (hp:R p [va,vb,vc,vd,ve,vf,vg]) (h:Reps R 7 ps cs):Reps R 7 (p :: ps) (va :: vb :: vc :: vd :: ve :: vf :: vg :: cs):=Reps.front hp rfl h rfl
theorem Reps.c8 {α:Type} {R:α→List Value→Prop} {ps:List α} {cs:List Value} {p:α} {va vb vc vd ve vf vg vh:Value} (hp:R p [va,vb,vc,vd,ve,vf,vg,vh]) (h:Reps R 8 ps cs):Reps R 8 (p :: ps) (va :: vb :: vc :: vd :: ve :: vf :: vg :: vh :: cs):=Reps.front hp rfl h rfl
theorem Reps.c9 {α:Type} {R:α→List Value→Prop} {ps:List α} {cs:List Value} {p:α} {va vb vc vd ve vf vg vh vi:Value} (hp:R p [va,vb,vc,vd,ve,vf,vg,vh,vi]) (h:Reps R 9 ps cs):Reps R 9 (p :: ps) (va :: vb :: vc :: vd :: ve :: vf :: vg :: vh :: vi :: cs):=Reps.front hp rfl h rfl
theorem Reps.c10 {α:Type} {R:α→List Value→Prop} {ps:List α} {cs:List Value} {p:α} {va vb vc vd ve vf vg vh vi vj:Value} (hp:R p [va,vb,vc,vd,ve,vf,vg,vh,vi,vj]) (h:Reps R 10 ps cs):Reps R 10 (p :: ps) (va :: vb :: vc :: vd :: ve :: vf :: vg :: vh :: vi :: vj :: cs):=Reps.front hp rfl h rfl
end Go.Proofs.YtpejjpecdkbleaaW.PrintWords
/-! #### WInv -/
/-! ### 57. A region of open order by ONE relation over what is listed so far: each operation is shown once, whatever came up before it -/
namespace Go.Proofs.YtpejjpecdkbleaaW.PrintLast
/-- Number i is listed too. -/
def up (b:Nat→Bool) (i:Nat):Nat→Bool:=fun j=>if j=i then true else b j
section
variable {P:Program} {ops:Array Oper} {Q:Exit→Act→World→Prop} {md:Region.Mode} {T:Bool×List (List Nat×List Nat)} {B:List Nat} {O:List Nat} {b:Nat→Bool} {i j n:Nat}
/-! The frame: what is listed has its destination filled. -/
end
end Go.Proofs.YtpejjpecdkbleaaW.PrintLast
/-! #### WInvWords -/
namespace Go.Proofs.YtpejjpecdkbleaaW.PrintWords
open Go.RowKit
/-- A flat row (its elements are told by no ok): ok may be told anew of its own block alone. hd: 'fun h => h'. -/
theorem Kd.R_flat {α:Type} {d:Kd α} {e base:Nat} {ok ok':Nat→Prop} {w:World} {v:Value} {xs:List α} (hd:∀ {ok1 ok2:Nat→Prop} {x:α} {cs:List Value},d.M w base ok1 x cs→d.M w base ok2 x cs) (h:d.R e w base ok v xs) (hok:∀ k,v.ownBlock=some k→ok k→ok' k):d.R e w base ok' v xs:=by
 obtain ⟨h0,inner,hown,hr⟩:=h
 exact ⟨fun k hk=>hok k hk (h0 k hk),inner,hown,hr.imp_ (fun _ _ hm=>hd hm)⟩
end Go.Proofs.YtpejjpecdkbleaaW.PrintWords
namespace Go.Proofs.YtpejjpecdkbleaaW.PrintLast
section
variable {ops:Array Oper} {a:Act} {o og:Oper} {g:Nat} {t:Tmp} {u:Bool}
end
end Go.Proofs.YtpejjpecdkbleaaW.PrintLast
/-! #### WGuard -/
/-! ### 58. A guarded operation whose guard is known to want it: the same goal without the guard -/
namespace Go.Proofs.YtpejjpecdkbleaaW.PrintWords
open Go.RowKit
section
variable {P:Program} {ops:Array Oper} {rest:List Oper} {o:Oper} {a:Act} {Q:Exit→Act→World→Prop} {W:World}
/-- The gate takes the guard off (hw: 'by rfl', 'by kernel_rfl': the guard's slot holds what is wanted). -/
theorem gate_guard (hw:Region.wanted o (yielded ops a.tmps)=true) (h:wpList P ops Q ({ o with guard:=none } :: rest) a W):wpList P ops Q (o :: rest) a W:=by
 have h1:Region.wanted { o with guard:=none } (yielded ops a.tmps)=true:=rfl
 unfold wpList at h ⊢
 rw [if_pos h1] at h
 rw [if_pos hw]
 exact h
end
end Go.Proofs.YtpejjpecdkbleaaW.PrintWords
/-! #### WNEv -/
/-! ### 48. N's events: append, a whole row appended, zeros appended, literals, make, stores, cuts, an element taken out -/
namespace Go.Proofs.YtpejjpecdkbleaaW.PrintWords
open Go.RowKit
namespace Kd
section
variable {α:Type} {d:Kd α} {e base n cap g:Nat} {ok ok' okp:Nat→Prop} {w w1 W:World} {v v1:Value} {xs ys:List α}
end
section
variable {P:Program} {ops:Array Oper} {rest:List Oper} {o:Oper} {a:Act} {Q:Exit→Act→World→Prop} {Kc:Act→World→Prop} {α:Type}
end
end Kd
end Go.Proofs.YtpejjpecdkbleaaW.PrintWords
/-! #### WMore -/
namespace Go.Proofs.YtpejjpecdkbleaaW.PrintMore
open Go.RowKit Go.Proofs.YtpejjpecdkbleaaW.PrintWords
namespace Kd
open Go.Proofs.YtpejjpecdkbleaaW.PrintWords.Kd
end Kd
namespace Kd
open Go.Proofs.YtpejjpecdkbleaaW.PrintWords.Kd
section
variable {α:Type} {d:Kd α} {e base g N:Nat} {ok:Nat→Prop} {W w1:World} {u v:Value} {xs:List α}
end
end Kd
/-- 'max' and 'min' of two whole numbers. -/
theorem max2_int (k k':IntKind) (x y:Int):Builtin.max2 (.int k x) (.int k' y)=pure (.int k (if x < y then y else x)):=by simp only [Builtin.max2,gt_iff_lt]
theorem min2_int (k k':IntKind) (x y:Int):Builtin.min2 (.int k x) (.int k' y)=pure (.int k (if y < x then y else x)):=by simp only [Builtin.min2]
theorem max_two (ats:Array TypeId) (ty:TypeId) (a b:Value):Builtin.max_ ats ty #[a,b]=(Builtin.max2 a b >>= fun s=>pure s):=by simp only [Builtin.max_,List.foldlM_cons,List.foldlM_nil]
theorem min_two (ats:Array TypeId) (ty:TypeId) (a b:Value):Builtin.min_ ats ty #[a,b]=(Builtin.min2 a b >>= fun s=>pure s):=by simp only [Builtin.min_,List.foldlM_cons,List.foldlM_nil]
theorem max_three (ats:Array TypeId) (ty:TypeId) (a b c:Value):Builtin.max_ ats ty #[a,b,c]=(Builtin.max2 a b >>= fun s=>Builtin.max2 s c >>= fun s=>pure s):=by simp only [Builtin.max_,List.foldlM_cons,List.foldlM_nil]
theorem min_three (ats:Array TypeId) (ty:TypeId) (a b c:Value):Builtin.min_ ats ty #[a,b,c]=(Builtin.min2 a b >>= fun s=>Builtin.min2 s c >>= fun s=>pure s):=by simp only [Builtin.min_,List.foldlM_cons,List.foldlM_nil]
theorem max_four (ats:Array TypeId) (ty:TypeId) (a b c d:Value):Builtin.max_ ats ty #[a,b,c,d]=(Builtin.max2 a b >>= fun s=>Builtin.max2 s c >>= fun s=>Builtin.max2 s d >>= fun s=>pure s):=by simp only [Builtin.max_,List.foldlM_cons,List.foldlM_nil]
theorem min_four (ats:Array TypeId) (ty:TypeId) (a b c d:Value):Builtin.min_ ats ty #[a,b,c,d]=(Builtin.min2 a b >>= fun s=>Builtin.min2 s c >>= fun s=>Builtin.min2 s d >>= fun s=>pure s):=by simp only [Builtin.min_,List.foldlM_cons,List.foldlM_nil]
end Go.Proofs.YtpejjpecdkbleaaW.PrintMore
namespace Go.Proofs.YtpejjpecdkbleaaW.PrintWords
open Go.RowKit
section
variable {P:Program} {ops:Array Oper} {rest:List Oper} {o:Oper} {a:Act} {Q:Exit→Act→World→Prop} {W:World}
/-- The operation is a call of this function (a cheap look ahead of a dear step). -/
theorem gate_callee {f:FuncId} {as_:Array Operand} {ts:Array TypeId} (_ho:o.op=.call { callee:=.value (.func f),args:=as_,argTypes:=ts }) (h:wpList P ops Q (o :: rest) a W):wpList P ops Q (o :: rest) a W:=h
/-- The operation is a builtin over these places. -/
theorem gate_builtin {b:Builtin} {xs:Array Operand} {ts:Array TypeId} (_ho:o.op=.call { callee:=.builtin b,args:=xs,argTypes:=ts }) (h:wpList P ops Q (o :: rest) a W):wpList P ops Q (o :: rest) a W:=h
end
/-- The greater of two whole numbers, as Go's max tells it. -/
def mx (a b:Int):Int:=if a < b then b else a
/-- The smaller of two whole numbers, as Go's min tells it. -/
def mn (a b:Int):Int:=if b < a then b else a
namespace Kd
section
variable {α:Type} {d:Kd α} {e base:Nat} {ok:Nat→Prop} {W w1:World} {v:Value} {xs:List α}
end
section
variable {α:Type} {d:Kd α} {e base g n cap:Nat} {ok oki okp:Nat→Prop} {W:World} {xs:List α} {i:Int} {c:List Value}
end
section
variable {α:Type} {d:Kd α} {e base b b' g N:Nat} {ok ok1:Nat→Prop} {W W2 w1:World} {u v:Value} {xs ys:List α} {S:Nat→Prop}
theorem R_keptB (h:d.R e W base ok v xs) (hk:Kept W W2 S) (hne:∀ k,ok k→¬ S k):d.R e W2 base (fun k=>ok k∧(¬ S k∧k < W.heap.size)) v xs :=
 R_kept (R_mono (R_bound h) (fun k hk=>⟨hk.1,hne k hk.1,hk.2.2.1⟩)) hk (fun _ hk=>hk.2.1)
end
end Kd
end Go.Proofs.YtpejjpecdkbleaaW.PrintWords
namespace Go.Proofs.YtpejjpecdkbleaaW.PrintWords
open Go.RowKit
namespace Kd
/-- A row that is only read, told by its value: its form, its length, what it leads to (in ok). e and base say nothing; they make it as the others are. -/
def V {α:Type} (d:Kd α) (_e:Nat) (W:World) (_base:Nat) (ok:Nat→Prop) (v:Value) (xs:List α):Prop:=∃ A c,v=.slice A xs.length c∧xs.length≤c∧F d W ok A xs.length xs
section
variable {α β:Type} {d:Kd α} {e base base' n m c g N' lo hi:Nat} {ok ok' S:Nat→Prop} {w W w1:World} {A:Option Addr} {ad:Addr} {u v v1:Value} {xs:List α}
theorem V_nil (d:Kd α) (e:Nat) (W:World) (base:Nat) (ok:Nat→Prop):V d e W base ok (.slice none 0 0) []:=⟨none,0,rfl,Nat.le_refl _,F_nil d W ok⟩
end
end Kd
end Go.Proofs.YtpejjpecdkbleaaW.PrintWords
/-! #### PrK -/
namespace Go.Proofs.Ytpejjpecdkbleaa.Print
open Go.RowKit Go.Proofs.YtpejjpecdkbleaaW.PrintWords Go.Proofs.YtpejjpecdkbleaaW.PrintLast Go.Proofs.YtpejjpecdkbleaaW.PrintMore
attribute [local go_sem] max2_int min2_int max_two min_two max_three min_three max_four min_four
set_option linter.unusedVariables false
set_option linter.unusedSimpArgs false
def errW:Option Int→Value
 | none=>.nilIface
 | some c=>.iface 0 (.int .i64 c)
theorem errW_none:errW none=.nilIface:=rfl
theorem errW_some (c:Int):errW (some c)=.iface 0 (.int .i64 c):=rfl
theorem info3:(Try.prog.info? 3).map (fun i=>(i.zero,i.size,i.bytes))=some (some (.int .i64 0),1,8):=by kernel_rfl
theorem info56:(Try.prog.info? 56).map (fun i=>(i.zero,i.size,i.bytes))=some (some (.agg #[(.int .i64 0),(.int .i64 0),(.int .i64 0),(.string ⟨#[]⟩),(.bool false),(.bool false),(.bool false),(.int .i64 0),(.int .i64 0),(.int .i64 0)]),10,72):=by kernel_rfl
def rd_L3 (xs:List (List Int)) (i:Int):(List Int):=xs.getD i.toNat ([]:List Int)
theorem at_L3 {w:World} {A:Option Addr} {n:Nat} {xs:List (List Int)} (h:Kd.C (Kd.slice 3 (Kd.int .i64)) w A n xs) (i:Int) (h0:0≤i) (h1:i < n):∃ ad A0 c0,A=some ad∧w.cell? (ad.add i.toNat)=some (.slice A0 (rd_L3 xs i).length c0)∧(rd_L3 xs i).length≤c0∧(Kd.int .i64).C w A0 (rd_L3 xs i).length (rd_L3 xs i):=by
 obtain ⟨ad,c,e,_,hK,hc0⟩:=Kd.C_get h ([]:List Int) i h0 h1
 have hc:∀ j u,c[j]?=some u→w.cell? (ad.add (i.toNat * 1+j))=some u:=hc0
 obtain ⟨A0,c0,rfl,l0,g0⟩:=hK
 exact ⟨ad,A0,c0,e,by have hq:=hc 0 _ rfl;rwa [Nat.mul_one,Nat.add_zero] at hq,l0,g0⟩
def rd_L4 (xs:List (List Bool)) (i:Int):(List Bool):=xs.getD i.toNat ([]:List Bool)
theorem at_L4 {w:World} {A:Option Addr} {n:Nat} {xs:List (List Bool)} (h:Kd.C (Kd.slice 4 Kd.bool) w A n xs) (i:Int) (h0:0≤i) (h1:i < n):∃ ad A0 c0,A=some ad∧w.cell? (ad.add i.toNat)=some (.slice A0 (rd_L4 xs i).length c0)∧(rd_L4 xs i).length≤c0∧Kd.bool.C w A0 (rd_L4 xs i).length (rd_L4 xs i):=by
 obtain ⟨ad,c,e,_,hK,hc0⟩:=Kd.C_get h ([]:List Bool) i h0 h1
 have hc:∀ j u,c[j]?=some u→w.cell? (ad.add (i.toNat * 1+j))=some u:=hc0
 obtain ⟨A0,c0,rfl,l0,g0⟩:=hK
 exact ⟨ad,A0,c0,e,by have hq:=hc 0 _ rfl;rwa [Nat.mul_one,Nat.add_zero] at hq,l0,g0⟩
/-! #### struct type 54 -/
structure S54 where
 f0:Int
 f1:Int
def z54:S54:=⟨(0:Int),(0:Int)⟩
def k54:Kd S54:=Kd.iso (Kd.pair (Kd.int .i64) (Kd.int .i64)) (fun x:S54=>(x.f0,x.f1))
theorem k54_open {w:World} {x:S54} {cs:List Value} (h:k54.K w x cs):cs=[.int .i64 x.f0,.int .i64 x.f1]:=by
 obtain ⟨_,_,rfl,rfl,rfl⟩:=h
 exact rfl
theorem k54_openM {w:World} {base:Nat} {ok:Nat→Prop} {x:S54} {cs:List Value} (h:k54.M w base ok x cs):cs=[.int .i64 x.f0,.int .i64 x.f1]:=by
 obtain ⟨_,_,rfl,rfl,rfl⟩:=h
 exact rfl
theorem k54_mk (w:World) (x:S54)  : k54.K w x [.int .i64 x.f0,.int .i64 x.f1]:=⟨[.int .i64 x.f0],[.int .i64 x.f1],rfl,rfl,rfl⟩
theorem k54_mkM (w:World) (base:Nat) (ok:Nat→Prop) (x:S54)  : k54.M w base ok x [.int .i64 x.f0,.int .i64 x.f1]:=⟨[.int .i64 x.f0],[.int .i64 x.f1],rfl,rfl,rfl⟩
theorem k54_mkF (W:World) (ok:Nat→Prop) (x:S54):Kd.FK k54 W ok x [.int .i64 x.f0,.int .i64 x.f1]:=fun W2 _=>k54_mk W2 x
def rd_T54 (xs:List S54) (i:Int):S54:=xs.getD i.toNat z54
theorem at_T54 {w:World} {A:Option Addr} {n:Nat} {xs:List S54} (h:Kd.C k54 w A n xs) (i:Int) (h0:0≤i) (h1:i < n):∃ ad , A=some ad∧w.cell? (ad.add (i.toNat * 2))=some (.int .i64 (rd_T54 xs i).f0)∧w.cell? ⟨(ad.add (i.toNat * 2)).block,(ad.add (i.toNat * 2)).off+1,none⟩=some (.int .i64 (rd_T54 xs i).f1):=by
 obtain ⟨ad,c,e,_,hK,hc0⟩:=Kd.C_get h z54 i h0 h1
 have hc:∀ j u,c[j]?=some u→w.cell? (ad.add (i.toNat * 2+j))=some u:=hc0
 obtain rfl:=k54_open hK
 exact ⟨ad,e,hc 0 _ rfl,by rw [← add_field _ _ 1 (by omega)];exact hc 1 _ rfl⟩
/-! #### struct type 56 -/
structure S56 where
 f0:Int
 f1:S54
 f2:ByteArray
 f3:Bool
 f4:Bool
 f5:Bool
 f6:Int
 f7:Int
 f8:Int
def z56:S56:=⟨(0:Int),z54,(⟨#[]⟩:ByteArray),false,false,false,(0:Int),(0:Int),(0:Int)⟩
def k56:Kd S56:=Kd.iso (Kd.pair (Kd.int .i64) (Kd.pair k54 (Kd.pair Kd.string (Kd.pair Kd.bool (Kd.pair Kd.bool (Kd.pair Kd.bool (Kd.pair (Kd.int .i64) (Kd.pair (Kd.int .i64) (Kd.int .i64))))))))) (fun x:S56=>(x.f0,x.f1,x.f2,x.f3,x.f4,x.f5,x.f6,x.f7,x.f8))
theorem k56_open {w:World} {x:S56} {cs:List Value} (h:k56.K w x cs):cs=[.int .i64 x.f0,.int .i64 x.f1.f0,.int .i64 x.f1.f1,.string x.f2,.bool x.f3,.bool x.f4,.bool x.f5,.int .i64 x.f6,.int .i64 x.f7,.int .i64 x.f8]:=by
 obtain ⟨_,_,rfl,rfl,⟨_,_,rfl,s1,⟨_,_,rfl,rfl,⟨_,_,rfl,rfl,⟨_,_,rfl,rfl,⟨_,_,rfl,rfl,⟨_,_,rfl,rfl,⟨_,_,rfl,rfl,rfl⟩⟩⟩⟩⟩⟩⟩⟩:=h
 obtain rfl:=k54_open s1
 exact rfl
theorem k56_openM {w:World} {base:Nat} {ok:Nat→Prop} {x:S56} {cs:List Value} (h:k56.M w base ok x cs):cs=[.int .i64 x.f0,.int .i64 x.f1.f0,.int .i64 x.f1.f1,.string x.f2,.bool x.f3,.bool x.f4,.bool x.f5,.int .i64 x.f6,.int .i64 x.f7,.int .i64 x.f8]:=by
 obtain ⟨_,_,rfl,rfl,⟨_,_,rfl,s1,⟨_,_,rfl,rfl,⟨_,_,rfl,rfl,⟨_,_,rfl,rfl,⟨_,_,rfl,rfl,⟨_,_,rfl,rfl,⟨_,_,rfl,rfl,rfl⟩⟩⟩⟩⟩⟩⟩⟩:=h
 obtain rfl:=k54_openM s1
 exact rfl
theorem k56_mk (w:World) (x:S56)  : k56.K w x [.int .i64 x.f0,.int .i64 x.f1.f0,.int .i64 x.f1.f1,.string x.f2,.bool x.f3,.bool x.f4,.bool x.f5,.int .i64 x.f6,.int .i64 x.f7,.int .i64 x.f8]:=⟨[.int .i64 x.f0],[.int .i64 x.f1.f0,.int .i64 x.f1.f1,.string x.f2,.bool x.f3,.bool x.f4,.bool x.f5,.int .i64 x.f6,.int .i64 x.f7,.int .i64 x.f8],rfl,rfl,⟨[.int .i64 x.f1.f0,.int .i64 x.f1.f1],[.string x.f2,.bool x.f3,.bool x.f4,.bool x.f5,.int .i64 x.f6,.int .i64 x.f7,.int .i64 x.f8],rfl,(k54_mk w x.f1 ),⟨[.string x.f2],[.bool x.f3,.bool x.f4,.bool x.f5,.int .i64 x.f6,.int .i64 x.f7,.int .i64 x.f8],rfl,rfl,⟨[.bool x.f3],[.bool x.f4,.bool x.f5,.int .i64 x.f6,.int .i64 x.f7,.int .i64 x.f8],rfl,rfl,⟨[.bool x.f4],[.bool x.f5,.int .i64 x.f6,.int .i64 x.f7,.int .i64 x.f8],rfl,rfl,⟨[.bool x.f5],[.int .i64 x.f6,.int .i64 x.f7,.int .i64 x.f8],rfl,rfl,⟨[.int .i64 x.f6],[.int .i64 x.f7,.int .i64 x.f8],rfl,rfl,⟨[.int .i64 x.f7],[.int .i64 x.f8],rfl,rfl,rfl⟩⟩⟩⟩⟩⟩⟩⟩
theorem k56_mkM (w:World) (base:Nat) (ok:Nat→Prop) (x:S56)  : k56.M w base ok x [.int .i64 x.f0,.int .i64 x.f1.f0,.int .i64 x.f1.f1,.string x.f2,.bool x.f3,.bool x.f4,.bool x.f5,.int .i64 x.f6,.int .i64 x.f7,.int .i64 x.f8]:=⟨[.int .i64 x.f0],[.int .i64 x.f1.f0,.int .i64 x.f1.f1,.string x.f2,.bool x.f3,.bool x.f4,.bool x.f5,.int .i64 x.f6,.int .i64 x.f7,.int .i64 x.f8],rfl,rfl,⟨[.int .i64 x.f1.f0,.int .i64 x.f1.f1],[.string x.f2,.bool x.f3,.bool x.f4,.bool x.f5,.int .i64 x.f6,.int .i64 x.f7,.int .i64 x.f8],rfl,(k54_mkM w base ok x.f1 ),⟨[.string x.f2],[.bool x.f3,.bool x.f4,.bool x.f5,.int .i64 x.f6,.int .i64 x.f7,.int .i64 x.f8],rfl,rfl,⟨[.bool x.f3],[.bool x.f4,.bool x.f5,.int .i64 x.f6,.int .i64 x.f7,.int .i64 x.f8],rfl,rfl,⟨[.bool x.f4],[.bool x.f5,.int .i64 x.f6,.int .i64 x.f7,.int .i64 x.f8],rfl,rfl,⟨[.bool x.f5],[.int .i64 x.f6,.int .i64 x.f7,.int .i64 x.f8],rfl,rfl,⟨[.int .i64 x.f6],[.int .i64 x.f7,.int .i64 x.f8],rfl,rfl,⟨[.int .i64 x.f7],[.int .i64 x.f8],rfl,rfl,rfl⟩⟩⟩⟩⟩⟩⟩⟩
theorem k56_mkF (W:World) (ok:Nat→Prop) (x:S56):Kd.FK k56 W ok x [.int .i64 x.f0,.int .i64 x.f1.f0,.int .i64 x.f1.f1,.string x.f2,.bool x.f3,.bool x.f4,.bool x.f5,.int .i64 x.f6,.int .i64 x.f7,.int .i64 x.f8]:=fun W2 _=>k56_mk W2 x
def rd_T56 (xs:List S56) (i:Int):S56:=xs.getD i.toNat z56
theorem at_T56 {w:World} {A:Option Addr} {n:Nat} {xs:List S56} (h:Kd.C k56 w A n xs) (i:Int) (h0:0≤i) (h1:i < n):∃ ad , A=some ad∧w.cell? (ad.add (i.toNat * 10))=some (.int .i64 (rd_T56 xs i).f0)∧w.cell? ⟨(ad.add (i.toNat * 10)).block,(ad.add (i.toNat * 10)).off+1,none⟩=some (.int .i64 (rd_T56 xs i).f1.f0)∧w.cell? ⟨(ad.add (i.toNat * 10)).block,(ad.add (i.toNat * 10)).off+2,none⟩=some (.int .i64 (rd_T56 xs i).f1.f1)∧w.cell? ⟨(ad.add (i.toNat * 10)).block,(ad.add (i.toNat * 10)).off+3,none⟩=some (.string (rd_T56 xs i).f2)∧w.cell? ⟨(ad.add (i.toNat * 10)).block,(ad.add (i.toNat * 10)).off+4,none⟩=some (.bool (rd_T56 xs i).f3)∧w.cell? ⟨(ad.add (i.toNat * 10)).block,(ad.add (i.toNat * 10)).off+5,none⟩=some (.bool (rd_T56 xs i).f4)∧w.cell? ⟨(ad.add (i.toNat * 10)).block,(ad.add (i.toNat * 10)).off+6,none⟩=some (.bool (rd_T56 xs i).f5)∧w.cell? ⟨(ad.add (i.toNat * 10)).block,(ad.add (i.toNat * 10)).off+7,none⟩=some (.int .i64 (rd_T56 xs i).f6)∧w.cell? ⟨(ad.add (i.toNat * 10)).block,(ad.add (i.toNat * 10)).off+8,none⟩=some (.int .i64 (rd_T56 xs i).f7)∧w.cell? ⟨(ad.add (i.toNat * 10)).block,(ad.add (i.toNat * 10)).off+9,none⟩=some (.int .i64 (rd_T56 xs i).f8):=by
 obtain ⟨ad,c,e,_,hK,hc0⟩:=Kd.C_get h z56 i h0 h1
 have hc:∀ j u,c[j]?=some u→w.cell? (ad.add (i.toNat * 10+j))=some u:=hc0
 obtain rfl:=k56_open hK
 exact ⟨ad,e,hc 0 _ rfl,by rw [← add_field _ _ 1 (by omega)];exact hc 1 _ rfl,by rw [← add_field _ _ 2 (by omega)];exact hc 2 _ rfl,by rw [← add_field _ _ 3 (by omega)];exact hc 3 _ rfl,by rw [← add_field _ _ 4 (by omega)];exact hc 4 _ rfl,by rw [← add_field _ _ 5 (by omega)];exact hc 5 _ rfl,by rw [← add_field _ _ 6 (by omega)];exact hc 6 _ rfl,by rw [← add_field _ _ 7 (by omega)];exact hc 7 _ rfl,by rw [← add_field _ _ 8 (by omega)];exact hc 8 _ rfl,by rw [← add_field _ _ 9 (by omega)];exact hc 9 _ rfl⟩
/-! #### struct type 30 -/
structure S30 where
 f0:Int
 f1:Int
def z30:S30:=⟨(0:Int),(0:Int)⟩
def k30:Kd S30:=Kd.iso (Kd.pair (Kd.int .i64) (Kd.int .i64)) (fun x:S30=>(x.f0,x.f1))
theorem k30_open {w:World} {x:S30} {cs:List Value} (h:k30.K w x cs):cs=[.int .i64 x.f0,.int .i64 x.f1]:=by
 obtain ⟨_,_,rfl,rfl,rfl⟩:=h
 exact rfl
theorem k30_openM {w:World} {base:Nat} {ok:Nat→Prop} {x:S30} {cs:List Value} (h:k30.M w base ok x cs):cs=[.int .i64 x.f0,.int .i64 x.f1]:=by
 obtain ⟨_,_,rfl,rfl,rfl⟩:=h
 exact rfl
theorem k30_mk (w:World) (x:S30)  : k30.K w x [.int .i64 x.f0,.int .i64 x.f1]:=⟨[.int .i64 x.f0],[.int .i64 x.f1],rfl,rfl,rfl⟩
theorem k30_mkM (w:World) (base:Nat) (ok:Nat→Prop) (x:S30)  : k30.M w base ok x [.int .i64 x.f0,.int .i64 x.f1]:=⟨[.int .i64 x.f0],[.int .i64 x.f1],rfl,rfl,rfl⟩
theorem k30_mkF (W:World) (ok:Nat→Prop) (x:S30):Kd.FK k30 W ok x [.int .i64 x.f0,.int .i64 x.f1]:=fun W2 _=>k30_mk W2 x
def rd_T30 (xs:List S30) (i:Int):S30:=xs.getD i.toNat z30
theorem at_T30 {w:World} {A:Option Addr} {n:Nat} {xs:List S30} (h:Kd.C k30 w A n xs) (i:Int) (h0:0≤i) (h1:i < n):∃ ad , A=some ad∧w.cell? (ad.add (i.toNat * 2))=some (.int .i64 (rd_T30 xs i).f0)∧w.cell? ⟨(ad.add (i.toNat * 2)).block,(ad.add (i.toNat * 2)).off+1,none⟩=some (.int .i64 (rd_T30 xs i).f1):=by
 obtain ⟨ad,c,e,_,hK,hc0⟩:=Kd.C_get h z30 i h0 h1
 have hc:∀ j u,c[j]?=some u→w.cell? (ad.add (i.toNat * 2+j))=some u:=hc0
 obtain rfl:=k30_open hK
 exact ⟨ad,e,hc 0 _ rfl,by rw [← add_field _ _ 1 (by omega)];exact hc 1 _ rfl⟩
/-! #### struct type 42 -/
structure S42 where
 f0:Int
 f1:Int
 f2:Int
 f3:S30
 f4:ByteArray
 f5:Bool
def z42:S42:=⟨(0:Int),(0:Int),(0:Int),z30,(⟨#[]⟩:ByteArray),false⟩
def k42:Kd S42:=Kd.iso (Kd.pair (Kd.int .i64) (Kd.pair (Kd.int .i64) (Kd.pair (Kd.int .i64) (Kd.pair k30 (Kd.pair Kd.string Kd.bool))))) (fun x:S42=>(x.f0,x.f1,x.f2,x.f3,x.f4,x.f5))
theorem k42_open {w:World} {x:S42} {cs:List Value} (h:k42.K w x cs):cs=[.int .i64 x.f0,.int .i64 x.f1,.int .i64 x.f2,.int .i64 x.f3.f0,.int .i64 x.f3.f1,.string x.f4,.bool x.f5]:=by
 obtain ⟨_,_,rfl,rfl,⟨_,_,rfl,rfl,⟨_,_,rfl,rfl,⟨_,_,rfl,s3,⟨_,_,rfl,rfl,rfl⟩⟩⟩⟩⟩:=h
 obtain rfl:=k30_open s3
 exact rfl
theorem k42_openM {w:World} {base:Nat} {ok:Nat→Prop} {x:S42} {cs:List Value} (h:k42.M w base ok x cs):cs=[.int .i64 x.f0,.int .i64 x.f1,.int .i64 x.f2,.int .i64 x.f3.f0,.int .i64 x.f3.f1,.string x.f4,.bool x.f5]:=by
 obtain ⟨_,_,rfl,rfl,⟨_,_,rfl,rfl,⟨_,_,rfl,rfl,⟨_,_,rfl,s3,⟨_,_,rfl,rfl,rfl⟩⟩⟩⟩⟩:=h
 obtain rfl:=k30_openM s3
 exact rfl
theorem k42_mk (w:World) (x:S42)  : k42.K w x [.int .i64 x.f0,.int .i64 x.f1,.int .i64 x.f2,.int .i64 x.f3.f0,.int .i64 x.f3.f1,.string x.f4,.bool x.f5]:=⟨[.int .i64 x.f0],[.int .i64 x.f1,.int .i64 x.f2,.int .i64 x.f3.f0,.int .i64 x.f3.f1,.string x.f4,.bool x.f5],rfl,rfl,⟨[.int .i64 x.f1],[.int .i64 x.f2,.int .i64 x.f3.f0,.int .i64 x.f3.f1,.string x.f4,.bool x.f5],rfl,rfl,⟨[.int .i64 x.f2],[.int .i64 x.f3.f0,.int .i64 x.f3.f1,.string x.f4,.bool x.f5],rfl,rfl,⟨[.int .i64 x.f3.f0,.int .i64 x.f3.f1],[.string x.f4,.bool x.f5],rfl,(k30_mk w x.f3 ),⟨[.string x.f4],[.bool x.f5],rfl,rfl,rfl⟩⟩⟩⟩⟩
theorem k42_mkM (w:World) (base:Nat) (ok:Nat→Prop) (x:S42)  : k42.M w base ok x [.int .i64 x.f0,.int .i64 x.f1,.int .i64 x.f2,.int .i64 x.f3.f0,.int .i64 x.f3.f1,.string x.f4,.bool x.f5]:=⟨[.int .i64 x.f0],[.int .i64 x.f1,.int .i64 x.f2,.int .i64 x.f3.f0,.int .i64 x.f3.f1,.string x.f4,.bool x.f5],rfl,rfl,⟨[.int .i64 x.f1],[.int .i64 x.f2,.int .i64 x.f3.f0,.int .i64 x.f3.f1,.string x.f4,.bool x.f5],rfl,rfl,⟨[.int .i64 x.f2],[.int .i64 x.f3.f0,.int .i64 x.f3.f1,.string x.f4,.bool x.f5],rfl,rfl,⟨[.int .i64 x.f3.f0,.int .i64 x.f3.f1],[.string x.f4,.bool x.f5],rfl,(k30_mkM w base ok x.f3 ),⟨[.string x.f4],[.bool x.f5],rfl,rfl,rfl⟩⟩⟩⟩⟩
theorem k42_mkF (W:World) (ok:Nat→Prop) (x:S42):Kd.FK k42 W ok x [.int .i64 x.f0,.int .i64 x.f1,.int .i64 x.f2,.int .i64 x.f3.f0,.int .i64 x.f3.f1,.string x.f4,.bool x.f5]:=fun W2 _=>k42_mk W2 x
def rd_T42 (xs:List S42) (i:Int):S42:=xs.getD i.toNat z42
theorem at_T42 {w:World} {A:Option Addr} {n:Nat} {xs:List S42} (h:Kd.C k42 w A n xs) (i:Int) (h0:0≤i) (h1:i < n):∃ ad , A=some ad∧w.cell? (ad.add (i.toNat * 7))=some (.int .i64 (rd_T42 xs i).f0)∧w.cell? ⟨(ad.add (i.toNat * 7)).block,(ad.add (i.toNat * 7)).off+1,none⟩=some (.int .i64 (rd_T42 xs i).f1)∧w.cell? ⟨(ad.add (i.toNat * 7)).block,(ad.add (i.toNat * 7)).off+2,none⟩=some (.int .i64 (rd_T42 xs i).f2)∧w.cell? ⟨(ad.add (i.toNat * 7)).block,(ad.add (i.toNat * 7)).off+3,none⟩=some (.int .i64 (rd_T42 xs i).f3.f0)∧w.cell? ⟨(ad.add (i.toNat * 7)).block,(ad.add (i.toNat * 7)).off+4,none⟩=some (.int .i64 (rd_T42 xs i).f3.f1)∧w.cell? ⟨(ad.add (i.toNat * 7)).block,(ad.add (i.toNat * 7)).off+5,none⟩=some (.string (rd_T42 xs i).f4)∧w.cell? ⟨(ad.add (i.toNat * 7)).block,(ad.add (i.toNat * 7)).off+6,none⟩=some (.bool (rd_T42 xs i).f5):=by
 obtain ⟨ad,c,e,_,hK,hc0⟩:=Kd.C_get h z42 i h0 h1
 have hc:∀ j u,c[j]?=some u→w.cell? (ad.add (i.toNat * 7+j))=some u:=hc0
 obtain rfl:=k42_open hK
 exact ⟨ad,e,hc 0 _ rfl,by rw [← add_field _ _ 1 (by omega)];exact hc 1 _ rfl,by rw [← add_field _ _ 2 (by omega)];exact hc 2 _ rfl,by rw [← add_field _ _ 3 (by omega)];exact hc 3 _ rfl,by rw [← add_field _ _ 4 (by omega)];exact hc 4 _ rfl,by rw [← add_field _ _ 5 (by omega)];exact hc 5 _ rfl,by rw [← add_field _ _ 6 (by omega)];exact hc 6 _ rfl⟩
def rd_L42 (xs:List (List S42)) (i:Int):(List S42):=xs.getD i.toNat ([]:List S42)
theorem at_L42 {w:World} {A:Option Addr} {n:Nat} {xs:List (List S42)} (h:Kd.C (Kd.slice 42 k42) w A n xs) (i:Int) (h0:0≤i) (h1:i < n):∃ ad A0 c0,A=some ad∧w.cell? (ad.add i.toNat)=some (.slice A0 (rd_L42 xs i).length c0)∧(rd_L42 xs i).length≤c0∧k42.C w A0 (rd_L42 xs i).length (rd_L42 xs i):=by
 obtain ⟨ad,c,e,_,hK,hc0⟩:=Kd.C_get h ([]:List S42) i h0 h1
 have hc:∀ j u,c[j]?=some u→w.cell? (ad.add (i.toNat * 1+j))=some u:=hc0
 obtain ⟨A0,c0,rfl,l0,g0⟩:=hK
 exact ⟨ad,A0,c0,e,by have hq:=hc 0 _ rfl;rwa [Nat.mul_one,Nat.add_zero] at hq,l0,g0⟩
/-! #### struct type 33 -/
structure S33 where
 f0:Int
 f1:S30
 f2:ByteArray
 f3:Bool
 f4:Bool
 f5:Bool
 f6:Int
 f7:Int
 f8:Int
def z33:S33:=⟨(0:Int),z30,(⟨#[]⟩:ByteArray),false,false,false,(0:Int),(0:Int),(0:Int)⟩
def k33:Kd S33:=Kd.iso (Kd.pair (Kd.int .i64) (Kd.pair k30 (Kd.pair Kd.string (Kd.pair Kd.bool (Kd.pair Kd.bool (Kd.pair Kd.bool (Kd.pair (Kd.int .i64) (Kd.pair (Kd.int .i64) (Kd.int .i64))))))))) (fun x:S33=>(x.f0,x.f1,x.f2,x.f3,x.f4,x.f5,x.f6,x.f7,x.f8))
theorem k33_open {w:World} {x:S33} {cs:List Value} (h:k33.K w x cs):cs=[.int .i64 x.f0,.int .i64 x.f1.f0,.int .i64 x.f1.f1,.string x.f2,.bool x.f3,.bool x.f4,.bool x.f5,.int .i64 x.f6,.int .i64 x.f7,.int .i64 x.f8]:=by
 obtain ⟨_,_,rfl,rfl,⟨_,_,rfl,s1,⟨_,_,rfl,rfl,⟨_,_,rfl,rfl,⟨_,_,rfl,rfl,⟨_,_,rfl,rfl,⟨_,_,rfl,rfl,⟨_,_,rfl,rfl,rfl⟩⟩⟩⟩⟩⟩⟩⟩:=h
 obtain rfl:=k30_open s1
 exact rfl
theorem k33_openM {w:World} {base:Nat} {ok:Nat→Prop} {x:S33} {cs:List Value} (h:k33.M w base ok x cs):cs=[.int .i64 x.f0,.int .i64 x.f1.f0,.int .i64 x.f1.f1,.string x.f2,.bool x.f3,.bool x.f4,.bool x.f5,.int .i64 x.f6,.int .i64 x.f7,.int .i64 x.f8]:=by
 obtain ⟨_,_,rfl,rfl,⟨_,_,rfl,s1,⟨_,_,rfl,rfl,⟨_,_,rfl,rfl,⟨_,_,rfl,rfl,⟨_,_,rfl,rfl,⟨_,_,rfl,rfl,⟨_,_,rfl,rfl,rfl⟩⟩⟩⟩⟩⟩⟩⟩:=h
 obtain rfl:=k30_openM s1
 exact rfl
theorem k33_mk (w:World) (x:S33)  : k33.K w x [.int .i64 x.f0,.int .i64 x.f1.f0,.int .i64 x.f1.f1,.string x.f2,.bool x.f3,.bool x.f4,.bool x.f5,.int .i64 x.f6,.int .i64 x.f7,.int .i64 x.f8]:=⟨[.int .i64 x.f0],[.int .i64 x.f1.f0,.int .i64 x.f1.f1,.string x.f2,.bool x.f3,.bool x.f4,.bool x.f5,.int .i64 x.f6,.int .i64 x.f7,.int .i64 x.f8],rfl,rfl,⟨[.int .i64 x.f1.f0,.int .i64 x.f1.f1],[.string x.f2,.bool x.f3,.bool x.f4,.bool x.f5,.int .i64 x.f6,.int .i64 x.f7,.int .i64 x.f8],rfl,(k30_mk w x.f1 ),⟨[.string x.f2],[.bool x.f3,.bool x.f4,.bool x.f5,.int .i64 x.f6,.int .i64 x.f7,.int .i64 x.f8],rfl,rfl,⟨[.bool x.f3],[.bool x.f4,.bool x.f5,.int .i64 x.f6,.int .i64 x.f7,.int .i64 x.f8],rfl,rfl,⟨[.bool x.f4],[.bool x.f5,.int .i64 x.f6,.int .i64 x.f7,.int .i64 x.f8],rfl,rfl,⟨[.bool x.f5],[.int .i64 x.f6,.int .i64 x.f7,.int .i64 x.f8],rfl,rfl,⟨[.int .i64 x.f6],[.int .i64 x.f7,.int .i64 x.f8],rfl,rfl,⟨[.int .i64 x.f7],[.int .i64 x.f8],rfl,rfl,rfl⟩⟩⟩⟩⟩⟩⟩⟩
theorem k33_mkM (w:World) (base:Nat) (ok:Nat→Prop) (x:S33)  : k33.M w base ok x [.int .i64 x.f0,.int .i64 x.f1.f0,.int .i64 x.f1.f1,.string x.f2,.bool x.f3,.bool x.f4,.bool x.f5,.int .i64 x.f6,.int .i64 x.f7,.int .i64 x.f8]:=⟨[.int .i64 x.f0],[.int .i64 x.f1.f0,.int .i64 x.f1.f1,.string x.f2,.bool x.f3,.bool x.f4,.bool x.f5,.int .i64 x.f6,.int .i64 x.f7,.int .i64 x.f8],rfl,rfl,⟨[.int .i64 x.f1.f0,.int .i64 x.f1.f1],[.string x.f2,.bool x.f3,.bool x.f4,.bool x.f5,.int .i64 x.f6,.int .i64 x.f7,.int .i64 x.f8],rfl,(k30_mkM w base ok x.f1 ),⟨[.string x.f2],[.bool x.f3,.bool x.f4,.bool x.f5,.int .i64 x.f6,.int .i64 x.f7,.int .i64 x.f8],rfl,rfl,⟨[.bool x.f3],[.bool x.f4,.bool x.f5,.int .i64 x.f6,.int .i64 x.f7,.int .i64 x.f8],rfl,rfl,⟨[.bool x.f4],[.bool x.f5,.int .i64 x.f6,.int .i64 x.f7,.int .i64 x.f8],rfl,rfl,⟨[.bool x.f5],[.int .i64 x.f6,.int .i64 x.f7,.int .i64 x.f8],rfl,rfl,⟨[.int .i64 x.f6],[.int .i64 x.f7,.int .i64 x.f8],rfl,rfl,⟨[.int .i64 x.f7],[.int .i64 x.f8],rfl,rfl,rfl⟩⟩⟩⟩⟩⟩⟩⟩
theorem k33_mkF (W:World) (ok:Nat→Prop) (x:S33):Kd.FK k33 W ok x [.int .i64 x.f0,.int .i64 x.f1.f0,.int .i64 x.f1.f1,.string x.f2,.bool x.f3,.bool x.f4,.bool x.f5,.int .i64 x.f6,.int .i64 x.f7,.int .i64 x.f8]:=fun W2 _=>k33_mk W2 x
def rd_T33 (xs:List S33) (i:Int):S33:=xs.getD i.toNat z33
theorem at_T33 {w:World} {A:Option Addr} {n:Nat} {xs:List S33} (h:Kd.C k33 w A n xs) (i:Int) (h0:0≤i) (h1:i < n):∃ ad , A=some ad∧w.cell? (ad.add (i.toNat * 10))=some (.int .i64 (rd_T33 xs i).f0)∧w.cell? ⟨(ad.add (i.toNat * 10)).block,(ad.add (i.toNat * 10)).off+1,none⟩=some (.int .i64 (rd_T33 xs i).f1.f0)∧w.cell? ⟨(ad.add (i.toNat * 10)).block,(ad.add (i.toNat * 10)).off+2,none⟩=some (.int .i64 (rd_T33 xs i).f1.f1)∧w.cell? ⟨(ad.add (i.toNat * 10)).block,(ad.add (i.toNat * 10)).off+3,none⟩=some (.string (rd_T33 xs i).f2)∧w.cell? ⟨(ad.add (i.toNat * 10)).block,(ad.add (i.toNat * 10)).off+4,none⟩=some (.bool (rd_T33 xs i).f3)∧w.cell? ⟨(ad.add (i.toNat * 10)).block,(ad.add (i.toNat * 10)).off+5,none⟩=some (.bool (rd_T33 xs i).f4)∧w.cell? ⟨(ad.add (i.toNat * 10)).block,(ad.add (i.toNat * 10)).off+6,none⟩=some (.bool (rd_T33 xs i).f5)∧w.cell? ⟨(ad.add (i.toNat * 10)).block,(ad.add (i.toNat * 10)).off+7,none⟩=some (.int .i64 (rd_T33 xs i).f6)∧w.cell? ⟨(ad.add (i.toNat * 10)).block,(ad.add (i.toNat * 10)).off+8,none⟩=some (.int .i64 (rd_T33 xs i).f7)∧w.cell? ⟨(ad.add (i.toNat * 10)).block,(ad.add (i.toNat * 10)).off+9,none⟩=some (.int .i64 (rd_T33 xs i).f8):=by
 obtain ⟨ad,c,e,_,hK,hc0⟩:=Kd.C_get h z33 i h0 h1
 have hc:∀ j u,c[j]?=some u→w.cell? (ad.add (i.toNat * 10+j))=some u:=hc0
 obtain rfl:=k33_open hK
 exact ⟨ad,e,hc 0 _ rfl,by rw [← add_field _ _ 1 (by omega)];exact hc 1 _ rfl,by rw [← add_field _ _ 2 (by omega)];exact hc 2 _ rfl,by rw [← add_field _ _ 3 (by omega)];exact hc 3 _ rfl,by rw [← add_field _ _ 4 (by omega)];exact hc 4 _ rfl,by rw [← add_field _ _ 5 (by omega)];exact hc 5 _ rfl,by rw [← add_field _ _ 6 (by omega)];exact hc 6 _ rfl,by rw [← add_field _ _ 7 (by omega)];exact hc 7 _ rfl,by rw [← add_field _ _ 8 (by omega)];exact hc 8 _ rfl,by rw [← add_field _ _ 9 (by omega)];exact hc 9 _ rfl⟩
end Go.Proofs.Ytpejjpecdkbleaa.Print
/-! #### Open -/
/- Opening what came in: data that reads at a type as a value of the print's kinds, whatever the nesting. -/
namespace Go.Proofs.Ytpejjpecdkbleaa.Open
open Go.Deep Go.ChangeShapes Go.WideShapes Go.Proofs.YtpejjpecdkbleaaW.PrintWords
set_option linter.unusedVariables false
/-- Whatever reads as data at type t is of kind d, and q holds of it. -/
def Opens (P:Program) (t:TypeId) {α:Type} (d:Kd α) (q:α→Prop):Prop :=
 P.cellsOf t=d.sz∧∀ {H:Type} (enc:TypeId×Value→H) (w:World) (fuel:Nat) (cs:List Value) (x:DataW H×List MemPlace),
  DataW.trod enc P w 0 (fun _=>true) true fuel t cs=some x→∃ a:α,d.K w a cs∧q a
section
variable {P:Program} {t:TypeId}
theorem opens_int {k:IntKind} (ht:P.underlying t=some (.int k)) (hc:P.cellsOf t=1):Opens P t (Kd.int k) (fun n=>(Lit.int k n).wf=true) :=
 ⟨hc,fun enc w fuel cs x h=>by
  obtain ⟨n,rfl,_,hw⟩:=DataW.trod_int ht h
  exact ⟨n,rfl,hw⟩⟩
theorem opens_bool (ht:P.underlying t=some .bool) (hc:P.cellsOf t=1):Opens P t Kd.bool (fun _=>True) :=
 ⟨hc,fun enc w fuel cs x h=>by
  obtain ⟨b,rfl,_⟩:=DataW.trod_bool ht h
  exact ⟨b,rfl,trivial⟩⟩
theorem opens_string (ht:P.underlying t=some .string) (hc:P.cellsOf t=1):Opens P t Kd.string (fun s=>s.size≤maxLen) :=
 ⟨hc,fun enc w fuel cs x h=>by
  obtain ⟨s,rfl,_,hs⟩:=DataW.trod_string ht h
  exact ⟨s,rfl,hs⟩⟩
theorem ofFn_get {α:Type} {n:Nat} (f:Fin n→α) (j:Nat) (p:α) (h:(List.ofFn f)[j]?=some p):∃ hj:j < n,p=f ⟨j,hj⟩:=by
 rw [List.getElem?_ofFn] at h
 split at h
 ·
  exact ⟨_,(Option.some.inj h).symm⟩
 ·
  cases h
theorem opens_slice {α:Type} {e:TypeId} {d:Kd α} {q:α→Prop} (ht:P.underlying t=some (.slice e)) (hc:P.cellsOf t=1) (h:Opens P e d q) :
  Opens P t (Kd.slice e d) (fun l=>l.length≤maxLen∧∀ x∈l,q x) :=
 ⟨hc,fun enc w fuel cs x hx=>by
  rcases open_slice ht hx with ⟨rfl,_⟩|⟨a,len,cap,m,n,D,Pl,rfl,_,hl,hm,hmm,_,hel⟩
  ·
   exact ⟨[],⟨none,0,rfl,Nat.le_refl _,rfl,Nat.zero_le _,fun h0=>absurd h0 (by simp)⟩,Nat.zero_le _,fun x hx=>by simp at hx⟩
  ·
   simp only [if_true] at hmm
   subst hmm
   have one:∀ i:Fin len,∃ y:α,∃ c,w.cells? 0 (a.add (i.val * P.cellsOf e)) (P.cellsOf e)=some c∧d.K w y c∧q y:=by
    intro i
    obtain ⟨c,h1,h2⟩:=hel i.val (by omega)
    obtain ⟨y,h3,h4⟩:=h.2 enc w n c _ h2
    exact ⟨y,c,h1,h3,h4⟩
   have ex:=Classical.axiomOfChoice one
   obtain ⟨f,hf⟩:=ex
   refine ⟨List.ofFn f,⟨some a,m,by simp,by simpa using hl,by simp,?_,fun h0=>⟨a,rfl,fun j p hj=>?_⟩⟩,by simp;omega,fun x hx=>?_⟩
   ·
    have:maxLen=9223372036854775807:=rfl
    simp
    omega
   ·
    obtain ⟨hj',rfl⟩:=ofFn_get f j p hj
    obtain ⟨c,h1,h3,h4⟩:=hf ⟨j,hj'⟩
    obtain ⟨_,hlc,hcell⟩:=World.cells?_some h1
    refine ⟨c,by rw [hlc,h.1],h3,fun i u hu=>?_⟩
    have hi:i < c.length:=(List.getElem?_eq_some_iff.1 hu).1
    have h5:=hcell i (by omega)
    rw [Go.Deep.add_add,h.1] at h5
    exact h5.trans hu
   ·
    obtain ⟨i,rfl⟩:=(List.mem_ofFn).1 hx
    obtain ⟨c,h1,h3,h4⟩:=hf i
    exact h4⟩
theorem opens_array {α:Type} {n:Nat} {e:TypeId} {d:Kd α} {q:α→Prop} (hs:0 < d.sz) (ht:P.underlying t=some (.array n e)) (hc:P.cellsOf t=n * d.sz) (h:Opens P e d q) :
  Opens P t (Kd.arr n d hs) (fun l=>l.length=n∧∀ x∈l,q x) :=
 ⟨hc,fun enc w fuel cs x hx=>by
  obtain ⟨xs,m,_,_,hl,hn,hf⟩:=DataW.trod_array ht hx
  have one:∀ i:Fin n,∃ y:α,d.K w y ((cs.drop (i.val * d.sz)).take d.sz)∧q y:=by
   intro i
   have h1:=hf i.val i.isLt
   rw [h.1] at h1
   exact h.2 enc w m _ _ (h1.trans (List.getElem?_eq_getElem (by have:=i.isLt;omega)))
  obtain ⟨f,hf2⟩:=Classical.axiomOfChoice one
  refine ⟨List.ofFn f,⟨by simp,by rw [hl,hc];simp,fun j p hj=>?_⟩,by simp,fun x hx=>?_⟩
  ·
   obtain ⟨hj',rfl⟩:=ofFn_get f j p hj
   exact (hf2 ⟨j,hj'⟩).1
  ·
   obtain ⟨i,rfl⟩:=(List.mem_ofFn).1 hx
   exact (hf2 i).2⟩
/-- The fields fs, which begin at cell o of a struct, as a kind. -/
def OpensF (P:Program) (fs:List Field) (o:Nat) {α:Type} (d:Kd α) (q:α→Prop):Prop :=
 ∀ {H:Type} (enc:TypeId×Value→H) (w:World) (fuel:Nat) (cs:List Value),
  (∀ f∈fs,∃ x,DataW.trod enc P w 0 (fun _=>true) true fuel f.type ((cs.drop f.offset).take (P.cellsOf f.type))=some x)→cs.length=o+d.sz→∃ a:α,d.K w a (cs.drop o)∧q a
theorem fields_one {α:Type} {f:Field} {d:Kd α} {q:α→Prop} (h:Opens P f.type d q):OpensF P [f] f.offset d q:=by
 intro H enc w fuel cs hx hl
 obtain ⟨x,hx⟩:=hx f (by simp)
 rw [h.1,List.take_of_length_le (by simp;omega)] at hx
 exact h.2 enc w fuel _ x hx
theorem fields_cons {α β:Type} {f:Field} {fs:List Field} {o:Nat} {d1:Kd α} {d2:Kd β} {q1:α→Prop} {q2:β→Prop} (h1:Opens P f.type d1 q1) (ho:o=f.offset+d1.sz) (h2:OpensF P fs o d2 q2) :
  OpensF P (f :: fs) f.offset (Kd.pair d1 d2) (fun x=>q1 x.1∧q2 x.2):=by
 intro H enc w fuel cs hx hl
 have hl':cs.length=f.offset+(d1.sz+d2.sz):=hl
 obtain ⟨x,hx1⟩:=hx f (by simp)
 obtain ⟨a,ha,qa⟩:=h1.2 enc w fuel _ x hx1
 obtain ⟨b,hb,qb⟩:=h2 enc w fuel cs (fun g hg=>hx g (by simp [hg])) (by omega)
 refine ⟨(a,b),⟨(cs.drop f.offset).take (P.cellsOf f.type),cs.drop o,?_,ha,hb⟩,qa,qb⟩
 rw [h1.1,ho,← List.drop_drop,List.take_append_drop]
theorem opens_struct {α β:Type} {fs:Array Field} {d:Kd β} {q:β→Prop} (g:α→β) (mk:β→α) (hg:∀ b,g (mk b)=b) (ht:P.underlying t=some (.struct fs)) (hc:P.cellsOf t=d.sz)
  (h:OpensF P fs.toList 0 d q):Opens P t (Kd.iso d g) (fun a=>q (g a)) :=
 ⟨hc,fun enc w fuel cs x hx=>by
  obtain ⟨xs,n,_,_,hl,hn,hf⟩:=DataW.trod_struct ht hx
  obtain ⟨b,hb,qb⟩:=h enc w n cs (fun f hm=>by
   obtain ⟨i,hi,rfl⟩:=List.getElem_of_mem hm
   have hi':i < fs.size:=by simpa using hi
   refine ⟨xs[i]'(by omega),?_⟩
   rw [hf i _ (by simp [hi'])]
   exact List.getElem?_eq_getElem (by omega)) (by rw [hl,hc];simp)
  refine ⟨mk b,?_,by show q (g (mk b));rw [hg];exact qb⟩
  show d.K w (g (mk b)) cs
  rw [hg]
  simpa using hb⟩
theorem opens_imp {α:Type} {d:Kd α} {q q':α→Prop} (h:Opens P t d q) (hi:∀ a,q a→q' a):Opens P t d q' :=
 ⟨h.1,fun enc w fuel cs x hx=>by
  obtain ⟨a,ha,qa⟩:=h.2 enc w fuel cs x hx
  exact ⟨a,ha,hi a qa⟩⟩
/-- An argument that is a slice. -/
theorem arg_slice {H:Type} {enc:TypeId×Value→H} {W:World} {α:Type} {e:TypeId} {d:Kd α} {q:List α→Prop} (ho:Opens P t (Kd.slice e d) q) {v:Value} {x:DataW H} {ps:List MemPlace}
  (hone:v.cells.toList=[v]) (h:DataW.Trod enc P W 0 (fun _=>true) true t v x ps):∃ (A:Option Addr) (c:Nat) (l:List α),v=.slice A l.length c∧l.length≤c∧d.C W A l.length l∧q l:=by
 obtain ⟨fuel,hf⟩:=h
 obtain ⟨l,⟨A,c,hv,hl,hC⟩,hq⟩:=ho.2 enc W fuel _ _ hf
 rw [hone] at hv
 exact ⟨A,c,l,by simpa using hv,hl,hC,hq⟩
/-- An argument that is a struct. -/
theorem arg_agg {w:World} {r:Reach} {base:Nat} {fs:Array Field} {v:Value} {l:List Value} (ht:P.underlying t=some (.struct fs)) (hv:Value.okWide P w r base t v) (hcs:v.cells.toList=l):v=.agg l.toArray:=by
 obtain ⟨cs,rfl,_⟩:=okWide_struct ht hv
 rw [← hcs]
 simp [Value.cells]
/-- An argument that is an array of scalars. -/
theorem arg_arr {α:Type} {n:Nat} {e:TypeId} {enc:α→Value} {h1:∀ x,(enc x).oneCell'=true} {hs:0 < (Kd.scalar enc h1).sz} {w w2:World} {r:Reach} {base:Nat} {v:Value} {l:List α} (ht:P.underlying t=some (.array n e)) (hv:Value.okWide P w r base t v)
  (hk:(Kd.arr n (Kd.scalar enc h1) hs).K w2 l v.cells.toList):v=.agg (l.map enc).toArray∧l.length=n:=by
 have hv2:=hv
 simp only [Value.okWide,ht] at hv2
 obtain ⟨cs,rfl,_⟩:=hv2
 obtain ⟨h2,h3⟩:=Kd.arr_cells hk
 refine ⟨?_,h2⟩
 have h4:cs.toList=l.map enc:=by simpa [Value.cells,encs] using h3
 rw [← h4]
end
end Go.Proofs.Ytpejjpecdkbleaa.Open
/-! #### Opn -/
namespace Go.Proofs.Ytpejjpecdkbleaa.Print
open Go.RowKit Go.Proofs.YtpejjpecdkbleaaW.PrintWords Go.Proofs.Ytpejjpecdkbleaa.Open
set_option linter.unusedVariables false
set_option maxRecDepth 100000 in
theorem opens3:Opens Try.prog 3 (Kd.int .i64) (fun x=>(Lit.int .i64 x).wf=true):=opens_int Try.underlying3 (by kernel_rfl)
set_option maxRecDepth 100000 in
theorem opens22:Opens Try.prog 22 (Kd.slice 3 (Kd.int .i64)) (fun x=>(x:List Int).length≤maxLen∧∀ x1_∈(x:List Int),(Lit.int .i64 x1_).wf=true):=opens_slice Try.underlying22 (by kernel_rfl) opens3
set_option maxRecDepth 100000 in
theorem opens4:Opens Try.prog 4 Kd.bool (fun x=>True):=opens_bool Try.underlying4 (by kernel_rfl)
set_option maxRecDepth 100000 in
theorem opens23:Opens Try.prog 23 (Kd.slice 4 Kd.bool) (fun x=>(x:List Bool).length≤maxLen∧∀ x1_∈(x:List Bool),True):=opens_slice Try.underlying23 (by kernel_rfl) opens4
set_option maxRecDepth 100000 in
theorem opens30:Opens Try.prog 30 k30 (fun x=>((Lit.int .i64 (x).f0).wf=true)∧((Lit.int .i64 (x).f1).wf=true)):=by
 refine opens_struct (d:=(Kd.pair (Kd.int .i64) (Kd.int .i64))) (q:=fun y:(Int)×(Int)=>((Lit.int .i64 (y.1)).wf=true)∧((Lit.int .i64 (y.2)).wf=true)) (fun x:S30=>(x.f0,x.f1)) (fun p=>⟨p.1,p.2⟩) (fun _=>rfl) Try.underlying30 (by kernel_rfl) ?_
 change OpensF Try.prog [_,_] 0 _ _
 apply fields_cons (q1:=fun a:Int=>(Lit.int .i64 a).wf=true) (q2:=fun y:(Int)=>((Lit.int .i64 (y)).wf=true))
 ·
  exact opens3
 ·
  rfl
 apply fields_one (q:=fun a:Int=>(Lit.int .i64 a).wf=true)
 exact opens3
set_option maxRecDepth 100000 in
theorem opens9:Opens Try.prog 9 Kd.string (fun x=>(x:ByteArray).size≤maxLen):=opens_string Try.underlying9 (by kernel_rfl)
set_option maxRecDepth 100000 in
theorem opens42:Opens Try.prog 42 k42 (fun x=>((Lit.int .i64 (x).f0).wf=true)∧((Lit.int .i64 (x).f1).wf=true)∧((Lit.int .i64 (x).f2).wf=true)∧(((Lit.int .i64 ((x).f3).f0).wf=true)∧((Lit.int .i64 ((x).f3).f1).wf=true))∧(((x).f4:ByteArray).size≤maxLen)∧(True)):=by
 refine opens_struct (d:=(Kd.pair (Kd.int .i64) (Kd.pair (Kd.int .i64) (Kd.pair (Kd.int .i64) (Kd.pair k30 (Kd.pair Kd.string Kd.bool)))))) (q:=fun y:(Int)×(Int)×(Int)×(S30)×(ByteArray)×(Bool)=>((Lit.int .i64 (y.1)).wf=true)∧((Lit.int .i64 (y.2.1)).wf=true)∧((Lit.int .i64 (y.2.2.1)).wf=true)∧(((Lit.int .i64 ((y.2.2.2.1)).f0).wf=true)∧((Lit.int .i64 ((y.2.2.2.1)).f1).wf=true))∧(((y.2.2.2.2.1):ByteArray).size≤maxLen)∧(True)) (fun x:S42=>(x.f0,x.f1,x.f2,x.f3,x.f4,x.f5)) (fun p=>⟨p.1,p.2.1,p.2.2.1,p.2.2.2.1,p.2.2.2.2.1,p.2.2.2.2.2⟩) (fun _=>rfl) Try.underlying42 (by kernel_rfl) ?_
 change OpensF Try.prog [_,_,_,_,_,_] 0 _ _
 apply fields_cons (q1:=fun a:Int=>(Lit.int .i64 a).wf=true) (q2:=fun y:(Int)×(Int)×(S30)×(ByteArray)×(Bool)=>((Lit.int .i64 (y.1)).wf=true)∧((Lit.int .i64 (y.2.1)).wf=true)∧(((Lit.int .i64 ((y.2.2.1)).f0).wf=true)∧((Lit.int .i64 ((y.2.2.1)).f1).wf=true))∧(((y.2.2.2.1):ByteArray).size≤maxLen)∧(True))
 ·
  exact opens3
 ·
  rfl
 apply fields_cons (q1:=fun a:Int=>(Lit.int .i64 a).wf=true) (q2:=fun y:(Int)×(S30)×(ByteArray)×(Bool)=>((Lit.int .i64 (y.1)).wf=true)∧(((Lit.int .i64 ((y.2.1)).f0).wf=true)∧((Lit.int .i64 ((y.2.1)).f1).wf=true))∧(((y.2.2.1):ByteArray).size≤maxLen)∧(True))
 ·
  exact opens3
 ·
  rfl
 apply fields_cons (q1:=fun a:Int=>(Lit.int .i64 a).wf=true) (q2:=fun y:(S30)×(ByteArray)×(Bool)=>(((Lit.int .i64 ((y.1)).f0).wf=true)∧((Lit.int .i64 ((y.1)).f1).wf=true))∧(((y.2.1):ByteArray).size≤maxLen)∧(True))
 ·
  exact opens3
 ·
  rfl
 apply fields_cons (q1:=fun a:S30=>((Lit.int .i64 (a).f0).wf=true)∧((Lit.int .i64 (a).f1).wf=true)) (q2:=fun y:(ByteArray)×(Bool)=>(((y.1):ByteArray).size≤maxLen)∧(True))
 ·
  exact opens30
 ·
  rfl
 apply fields_cons (q1:=fun a:ByteArray=>(a:ByteArray).size≤maxLen) (q2:=fun y:(Bool)=>(True))
 ·
  exact opens9
 ·
  rfl
 apply fields_one (q:=fun a:Bool=>True)
 exact opens4
set_option maxRecDepth 100000 in
theorem opens39:Opens Try.prog 39 (Kd.slice 42 k42) (fun x=>(x:List (S42)).length≤maxLen∧∀ x1_∈(x:List (S42)),((Lit.int .i64 (x1_).f0).wf=true)∧((Lit.int .i64 (x1_).f1).wf=true)∧((Lit.int .i64 (x1_).f2).wf=true)∧(((Lit.int .i64 ((x1_).f3).f0).wf=true)∧((Lit.int .i64 ((x1_).f3).f1).wf=true))∧(((x1_).f4:ByteArray).size≤maxLen)∧(True)):=opens_slice Try.underlying39 (by kernel_rfl) opens42
end Go.Proofs.Ytpejjpecdkbleaa.Print
/-! #### Fct -/
namespace Go.Proofs.Ytpejjpecdkbleaa.Fct
theorem mayEnter:Try.pinned.checked.prog.mayEnter=true:=by kernel_rfl
theorem liftsFinal:Try.pinned.checked.prog.liftsFinal=false:=by kernel_rfl
theorem makes:Try.pinned.checked.prog.make=some .cut:=by kernel_rfl
theorem lifts (b:Bool) (h:b=false):(b == Try.pinned.checked.prog.liftsFinal)=true:=by rw [h,liftsFinal];rfl
theorem make_ (m:Make) (h:m=.cut):(Try.pinned.checked.prog.make == some m)=true:=by rw [h,makes];rfl
end Go.Proofs.Ytpejjpecdkbleaa.Fct
/-! #### Pr46 -/
namespace Go.Proofs.Ytpejjpecdkbleaa.Print
open Go.RowKit Go.Proofs.YtpejjpecdkbleaaW.PrintWords Go.Proofs.YtpejjpecdkbleaaW.PrintLast Go.Proofs.YtpejjpecdkbleaaW.PrintMore
attribute [local go_sem] max2_int min2_int max_two min_two max_three min_three max_four min_four
set_option linter.unusedVariables false
set_option linter.unusedSimpArgs false
/-! ### peers_peer: function 46 -/
def peers_peer.f (a0:Int):Option (Bool):=if a0≥1 then (some (decide (a0≤15))) else (some false)
set_option maxHeartbeats 8000000 in
set_option maxRecDepth 100000 in
theorem peers_peer.calls (a0:Int) (r:Bool) (w:World) (h:peers_peer.f a0=some r) :
  Calls Try.prog 46 #[.int .i64 a0] w fun e w'=>e=.returned (.bool r)∧Drawn0 w w':=by
 have H:(if a0≥1 then (some (decide (a0≤15))) else (some false))=some r:=h
 clear h
 by_cases c2:a0≥1
 ·
  rw [if_pos c2] at H
  have c2b0:decide (1≤a0)=true:=decide_eq_true c2
  clear c2
  obtain rfl:=Option.some.inj H
  go_enter Try.func46,Try.ntmps46
  go_wp2
  go_ret
  exact ⟨by first|rfl|(simp;done)|(simp [*];done),by repeat (first|exact Drawn0.refl _|apply Drawn0.step)⟩
 ·
  rw [if_neg c2] at H
  have c2b0:decide (1≤a0)=false:=decide_eq_false c2
  clear c2
  obtain rfl:=Option.some.inj H
  go_enter Try.func46,Try.ntmps46
  go_wp2
  go_ret
  exact ⟨by first|rfl|(simp;done)|(simp [*];done),by repeat (first|exact Drawn0.refl _|apply Drawn0.step)⟩
end Go.Proofs.Ytpejjpecdkbleaa.Print
/-! #### Pr72 -/
namespace Go.Proofs.Ytpejjpecdkbleaa.Print
open Go.RowKit Go.Proofs.YtpejjpecdkbleaaW.PrintWords Go.Proofs.YtpejjpecdkbleaaW.PrintLast Go.Proofs.YtpejjpecdkbleaaW.PrintMore
attribute [local go_sem] max2_int min2_int max_two min_two max_three min_three max_four min_four
set_option linter.unusedVariables false
set_option linter.unusedSimpArgs false
/-! ### plane_within: function 72 -/
def plane_within.f (a0:Int):Option (Bool):=if a0≥(-1048576) then (some (decide (a0≤1048576))) else (some false)
set_option maxHeartbeats 8000000 in
set_option maxRecDepth 100000 in
theorem plane_within.calls (a0:Int) (r:Bool) (w:World) (h:plane_within.f a0=some r) :
  Calls Try.prog 72 #[.int .i64 a0] w fun e w'=>e=.returned (.bool r)∧Drawn0 w w':=by
 have H:(if a0≥(-1048576) then (some (decide (a0≤1048576))) else (some false))=some r:=h
 clear h
 by_cases c2:a0≥(-1048576)
 ·
  rw [if_pos c2] at H
  have c2b0:decide ((-1048576)≤a0)=true:=decide_eq_true c2
  clear c2
  obtain rfl:=Option.some.inj H
  go_enter Try.func72,Try.ntmps72
  go_wp2
  go_ret
  exact ⟨by first|rfl|(simp;done)|(simp [*];done),by repeat (first|exact Drawn0.refl _|apply Drawn0.step)⟩
 ·
  rw [if_neg c2] at H
  have c2b0:decide ((-1048576)≤a0)=false:=decide_eq_false c2
  clear c2
  obtain rfl:=Option.some.inj H
  go_enter Try.func72,Try.ntmps72
  go_wp2
  go_ret
  exact ⟨by first|rfl|(simp;done)|(simp [*];done),by repeat (first|exact Drawn0.refl _|apply Drawn0.step)⟩
end Go.Proofs.Ytpejjpecdkbleaa.Print
/-! #### Pr47 -/
namespace Go.Proofs.Ytpejjpecdkbleaa.Print
open Go.RowKit Go.Proofs.YtpejjpecdkbleaaW.PrintWords Go.Proofs.YtpejjpecdkbleaaW.PrintLast Go.Proofs.YtpejjpecdkbleaaW.PrintMore
attribute [local go_sem] max2_int min2_int max_two min_two max_three min_three max_four min_four
set_option linter.unusedVariables false
set_option linter.unusedSimpArgs false
/-! ### plane_Check: function 47 -/
def plane_Check.f (a0_0:Int) (a0_1:Int):Option (Bool):=(plane_within.f a0_0).bind fun t2=>(if t2=true then ((plane_within.f a0_1).bind fun t3=>(some t3)) else (some false))
set_option maxHeartbeats 8000000 in
set_option maxRecDepth 100000 in
theorem plane_Check.calls (a0_0:Int) (a0_1:Int) (r:Bool) (w:World) (h:plane_Check.f a0_0 a0_1=some r) :
  Calls Try.prog 47 #[.agg #[.int .i64 a0_0,.int .i64 a0_1]] w fun e w'=>e=.returned (.bool r)∧Below w.heap.size w w':=by
 have hu30:=Try.underlying30
 have HB:=Aside0.mk (Below.refl w.heap.size w)
 have H:((plane_within.f a0_0).bind fun t2=>(if t2=true then ((plane_within.f a0_1).bind fun t3=>(some t3)) else (some false)))=some r:=h
 clear h
 replace H:=Option.bind_eq_some_iff.mp H
 obtain ⟨t2,A20,H⟩:=H
 replace H:(if t2=true then ((plane_within.f a0_1).bind fun t3=>(some t3)) else (some false))=some r:=H
 have A2:=Aside0.mk A20
 clear A20
 by_cases c3:t2=true
 ·
  subst c3
  have H1:((plane_within.f a0_1).bind fun t3=>(some t3))=some r:=by rw [if_pos rfl] at H;exact H
  clear H
  have H:=H1
  clear H1
  replace H:=Option.bind_eq_some_iff.mp H
  obtain ⟨t3,A40,H⟩:=H
  replace H:(some t3)=some r:=H
  have A4:=Aside0.mk A40
  clear A40
  obtain rfl:=Option.some.inj H
  go_enter Try.func47,Try.ntmps47
  go_wp2_with (first|((with_reducible refine gate_dst (N:=1) rfl ?_);refine box_event ?hg (N:=1) ?hd (cs:=#[.int .i64 a0_0,.int .i64 a0_1]) (t:=30) ?hr ?_;(case hd=>rfl);(case hg=>rfl);(case hr=>first|(go_simp;done)|(go_simp;rfl));intro gb1 hg w5 hbox hb;have n0_:=Aside0.mk (below_step (by repeat (first|(with_reducible first|exact HB.out|apply below_alloc|apply pw_below_drewN|apply below_drew1)|exact HB.out)) hb);have n1_:=Aside0.mk (hbox);have n2_:=Aside0.mk ((by rw [hg];exact (below_size (by repeat (first|(with_reducible first|exact HB.out|apply below_alloc|apply pw_below_drewN|apply below_drew1)|exact HB.out))):w.heap.size≤gb1));have n3_:=Aside0.mk ((by rw [hg];exact (below_size (by repeat (first|(with_reducible first|exact HB.out|apply below_alloc|apply pw_below_drewN|apply below_drew1)|exact HB.out))):w.heap.size≤gb1));clear HB;have HB:=n0_;have BK1:=n1_;have GW1:=n2_;have GE1:=n3_;clear n0_ n1_ n2_ n3_;clear hb hbox hg;have hcz6_0:w5.cell? ⟨gb1,0,none⟩=some (.int .i64 a0_0):=(blk_cell BK1.out 0).trans rfl;have hcz6_1:w5.cell? ⟨gb1,1,none⟩=some (.int .i64 a0_1):=(blk_cell BK1.out 1).trans rfl;have hfz6_0:=blk_frozen BK1.out 0;have hfz6_1:=blk_frozen BK1.out 1)|((with_reducible refine gate_callee (f:=72) rfl ?_);refine goesL_ (some 5) rfl rfl Try.func72 (by kernel_rfl) rfl #[.int .i64 a0_0] rfl (by (try simp only [List.map_toArray,List.map_cons,List.map_nil]);first|done|rfl|(simp only [List.length_drop,List.length_take];rfl)) ?_;(with_reducible refine (plane_within.calls a0_0 true _ A2.out).mono ?_);rintro e w' ⟨rfl,⟨nd,rfl⟩⟩;refine ⟨_,rfl,?_⟩)|(go_at_call 72;(with_reducible refine (plane_within.calls a0_1 t3 _ A4.out).mono ?_);rintro e w' ⟨rfl,⟨nd,rfl⟩⟩))
  go_ret
  exact ⟨by first|rfl|(simp [errW_none,errW_some] <;> rfl)|(simp [*,errW_none,errW_some] <;> rfl),by repeat (first|(with_reducible first|exact HB.out|apply below_alloc|apply pw_below_drewN|apply below_drew1|refine below_set ?_ GE1.out)|exact HB.out)⟩
 ·
  replace c3:=Bool.eq_false_iff.mpr c3
  subst c3
  have H1:(some false)=some r:=by rw [if_neg (show ¬ (false=true) by decide)] at H;exact H
  clear H
  have H:=H1
  clear H1
  obtain rfl:=Option.some.inj H
  go_enter Try.func47,Try.ntmps47
  go_wp2_with (first|((with_reducible refine gate_dst (N:=1) rfl ?_);refine box_event ?hg (N:=1) ?hd (cs:=#[.int .i64 a0_0,.int .i64 a0_1]) (t:=30) ?hr ?_;(case hd=>rfl);(case hg=>rfl);(case hr=>first|(go_simp;done)|(go_simp;rfl));intro gb1 hg w7 hbox hb;have n0_:=Aside0.mk (below_step (by repeat (first|(with_reducible first|exact HB.out|apply below_alloc|apply pw_below_drewN|apply below_drew1)|exact HB.out)) hb);have n1_:=Aside0.mk (hbox);have n2_:=Aside0.mk ((by rw [hg];exact (below_size (by repeat (first|(with_reducible first|exact HB.out|apply below_alloc|apply pw_below_drewN|apply below_drew1)|exact HB.out))):w.heap.size≤gb1));have n3_:=Aside0.mk ((by rw [hg];exact (below_size (by repeat (first|(with_reducible first|exact HB.out|apply below_alloc|apply pw_below_drewN|apply below_drew1)|exact HB.out))):w.heap.size≤gb1));clear HB;have HB:=n0_;have BK1:=n1_;have GW1:=n2_;have GE1:=n3_;clear n0_ n1_ n2_ n3_;clear hb hbox hg;have hcz8_0:w7.cell? ⟨gb1,0,none⟩=some (.int .i64 a0_0):=(blk_cell BK1.out 0).trans rfl;have hcz8_1:w7.cell? ⟨gb1,1,none⟩=some (.int .i64 a0_1):=(blk_cell BK1.out 1).trans rfl;have hfz8_0:=blk_frozen BK1.out 0;have hfz8_1:=blk_frozen BK1.out 1)|((with_reducible refine gate_callee (f:=72) rfl ?_);refine goesL_ (some 5) rfl rfl Try.func72 (by kernel_rfl) rfl #[.int .i64 a0_0] rfl (by (try simp only [List.map_toArray,List.map_cons,List.map_nil]);first|done|rfl|(simp only [List.length_drop,List.length_take];rfl)) ?_;(with_reducible refine (plane_within.calls a0_0 false _ A2.out).mono ?_);rintro e w' ⟨rfl,⟨nd,rfl⟩⟩;refine ⟨_,rfl,?_⟩))
  go_ret
  exact ⟨by first|rfl|(simp [errW_none,errW_some] <;> rfl)|(simp [*,errW_none,errW_some] <;> rfl),by repeat (first|(with_reducible first|exact HB.out|apply below_alloc|apply pw_below_drewN|apply below_drew1|refine below_set ?_ GE1.out)|exact HB.out)⟩
end Go.Proofs.Ytpejjpecdkbleaa.Print
/-! #### Pr48 -/
namespace Go.Proofs.Ytpejjpecdkbleaa.Print
open Go.RowKit Go.Proofs.YtpejjpecdkbleaaW.PrintWords Go.Proofs.YtpejjpecdkbleaaW.PrintLast Go.Proofs.YtpejjpecdkbleaaW.PrintMore
attribute [local go_sem] max2_int min2_int max_two min_two max_three min_three max_four min_four
set_option linter.unusedVariables false
set_option linter.unusedSimpArgs false
/-! ### peers_tick: function 48 -/
def peers_tick.f (a0:Int):Option (Bool):=if a0≥0 then (some (decide (a0≤1099511627776))) else (some false)
set_option maxHeartbeats 8000000 in
set_option maxRecDepth 100000 in
theorem peers_tick.calls (a0:Int) (r:Bool) (w:World) (h:peers_tick.f a0=some r) :
  Calls Try.prog 48 #[.int .i64 a0] w fun e w'=>e=.returned (.bool r)∧Drawn0 w w':=by
 have H:(if a0≥0 then (some (decide (a0≤1099511627776))) else (some false))=some r:=h
 clear h
 by_cases c2:a0≥0
 ·
  rw [if_pos c2] at H
  have c2b0:decide (0≤a0)=true:=decide_eq_true c2
  clear c2
  obtain rfl:=Option.some.inj H
  go_enter Try.func48,Try.ntmps48
  go_wp2
  go_ret
  exact ⟨by first|rfl|(simp;done)|(simp [*];done),by repeat (first|exact Drawn0.refl _|apply Drawn0.step)⟩
 ·
  rw [if_neg c2] at H
  have c2b0:decide (0≤a0)=false:=decide_eq_false c2
  clear c2
  obtain rfl:=Option.some.inj H
  go_enter Try.func48,Try.ntmps48
  go_wp2
  go_ret
  exact ⟨by first|rfl|(simp;done)|(simp [*];done),by repeat (first|exact Drawn0.refl _|apply Drawn0.step)⟩
end Go.Proofs.Ytpejjpecdkbleaa.Print
/-! #### MaPeers1 -/
/- peers: a table in memory; who is there, what is set. -/
namespace Go.Proofs.Ytpejjpecdkbleaa.Print
open Go.RowKit Go.Proofs.YtpejjpecdkbleaaW.PrintWords Go.Proofs.YtpejjpecdkbleaaW.PrintLast Go.Proofs.YtpejjpecdkbleaaW.PrintMore
set_option linter.unusedVariables false
set_option linter.unusedSimpArgs false
abbrev Pr:=S33
abbrev Slots:=List (Option (Nat×Pr))
def ptrOf:Option (Nat×Pr)→Value
 | none=>.pointer none
 | some bp=>.pointer (some ⟨bp.1,0,none⟩)
def peerC (p:Pr):List Value:=[.int .i64 p.f0,.int .i64 p.f1.f0,.int .i64 p.f1.f1,.string p.f2,.bool p.f3,.bool p.f4,.bool p.f5,.int .i64 p.f6,.int .i64 p.f7,.int .i64 p.f8]
def tabC (room tmo:Int) (ps:Slots) (bs:List Bool):List Value:=.int .i64 room :: .int .i64 tmo :: (ps.map ptrOf ++ bs.map Value.bool)
/-- A table at block g. -/
structure Tab (w W:World) (g:Nat) (room tmo:Int) (ps:Slots) (bs:List Bool):Prop where
 blk:W.heap[g]?=some (.cells (tabC room tmo ps bs).toArray 85 (0,0))
 lp:ps.length=16
 lb:bs.length=16
 node:∀ (i b:Nat) (p:Pr),ps[i]?=some (some (b,p))→W.heap[b]?=some (.cells (peerC p).toArray 33 (0,0))∧w.heap.size≤b∧p.f0=(i:Int)
 inj:∀ (i j b:Nat) (p q:Pr),ps[i]?=some (some (b,p))→ps[j]?=some (some (b,q))→i=j
 ge:w.heap.size≤g
 bel:Below w.heap.size w W
section
variable {w W W2:World} {g:Nat} {room tmo:Int} {ps:Slots} {bs:List Bool}
theorem Tab.room_ (t:Tab w W g room tmo ps bs):W.cell? ⟨g,0,none⟩=some (.int .i64 room):=by
 rw [blk_cell t.blk]
 simp [tabC]
theorem Tab.tmo_ (t:Tab w W g room tmo ps bs):W.cell? ⟨g,1,none⟩=some (.int .i64 tmo):=by
 rw [blk_cell t.blk]
 simp [tabC]
theorem Tab.slot (t:Tab w W g room tmo ps bs) (n:Nat) (hn:n < 16):W.cell? ⟨g,2+n,none⟩=some (ptrOf (ps.getD n none)):=by
 have hl:=t.lp
 rw [blk_cell t.blk]
 rw [show 2+n=n+2 by omega]
 simp only [tabC,List.getElem?_toArray,List.getElem?_cons_succ]
 rw [List.getElem?_append_left (by rw [List.length_map];omega),List.getElem?_map,List.getElem?_eq_getElem (by omega),List.getD_eq_getElem?_getD,List.getElem?_eq_getElem (by omega)]
 rfl
theorem Tab.ban (t:Tab w W g room tmo ps bs) (n:Nat) (hn:n < 16):W.cell? ⟨g,18+n,none⟩=some (.bool (bs.getD n false)):=by
 have hl:=t.lp
 have hl2:=t.lb
 rw [blk_cell t.blk]
 rw [show 18+n=(16+n)+2 by omega]
 simp only [tabC,List.getElem?_toArray,List.getElem?_cons_succ]
 rw [List.getElem?_append_right (by rw [List.length_map];omega),List.length_map,hl,show 16+n - 16=n by omega,List.getElem?_map,List.getElem?_eq_getElem (by omega),List.getD_eq_getElem?_getD,List.getElem?_eq_getElem (by omega)]
 rfl
theorem Tab.frz (t:Tab w W g room tmo ps bs) (n:Nat):W.frozen? ⟨g,n,none⟩=false:=blk_frozen t.blk n
theorem Tab.lt (t:Tab w W g room tmo ps bs):g < W.heap.size:=blk_lt t.blk
theorem Tab.ne (t:Tab w W g room tmo ps bs) {i b:Nat} {p:Pr} (h:ps[i]?=some (some (b,p))):b≠g:=blk_ne (t.node i b p h).1 t.blk (by decide)
theorem Tab.below (t:Tab w W g room tmo ps bs) (hb:Below W.heap.size W W2):Tab w W2 g room tmo ps bs :=
 ⟨blk_below t.blk hb,t.lp,t.lb,fun i b p h=>⟨blk_below (t.node i b p h).1 hb,(t.node i b p h).2⟩,t.inj,t.ge,below_step t.bel hb⟩
theorem Tab.drewN (t:Tab w W g room tmo ps bs) (n:Nat):Tab w (W.drewN n) g room tmo ps bs:=t.below (Drawn0.below ⟨n,rfl⟩)
/-- One peer's block is another then. -/
theorem Tab.upd (t:Tab w W g room tmo ps bs) {n b:Nat} {p p':Pr} (h:ps[n]?=some (some (b,p))) (hk:KeepBut W W2 b none) (hb:W2.heap[b]?=some (.cells (peerC p').toArray 33 (0,0))) (hf:p'.f0=p.f0) (hbel:Below w.heap.size w W2) :
  Tab w W2 g room tmo (ps.set n (some (b,p'))) bs:=by
 have hnl:n < ps.length:=(List.getElem?_eq_some_iff.1 h).1
 have hg:∀ (i b':Nat) (q:Pr),(ps.set n (some (b,p')))[i]?=some (some (b',q))→(i=n∧b'=b∧q=p')∨(i≠n∧ps[i]?=some (some (b',q))):=by
  intro i b' q hi
  by_cases hin:i=n
  ·
   subst hin
   rw [List.getElem?_set_self hnl] at hi
   simp only [Option.some.injEq,Prod.mk.injEq] at hi
   exact .inl ⟨rfl,hi.1.symm,hi.2.symm⟩
  ·
   rw [List.getElem?_set_ne (Ne.symm hin)] at hi
   exact .inr ⟨hin,hi⟩
 refine ⟨?_,by rw [List.length_set];exact t.lp,t.lb,fun i b' q hi=>?_,fun i j b' q1 q2 h1 h2=>?_,t.ge,hbel⟩
 ·
  have he:tabC room tmo (ps.set n (some (b,p'))) bs=tabC room tmo ps bs:=by
   unfold tabC
   have:(ps.set n (some (b,p'))).map ptrOf=ps.map ptrOf:=by
    rw [List.map_set]
    apply List.ext_getElem?
    intro q
    by_cases hq:q=n
    ·
     subst hq
     rw [List.getElem?_set_self (by rw [List.length_map];exact hnl),List.getElem?_map,h]
     rfl
    ·
     rw [List.getElem?_set_ne (Ne.symm hq)]
   rw [this]
  rw [he]
  exact hk.blk t.blk (Ne.symm (t.ne h)) (by simp)
 ·
  rcases hg i b' q hi with ⟨rfl,rfl,rfl⟩|⟨hne,hi2⟩
  ·
   exact ⟨hb,(t.node _ _ _ h).2.1,hf.trans (t.node _ _ _ h).2.2⟩
  ·
   refine ⟨hk.blk (t.node i b' q hi2).1 ?_ (by simp),(t.node i b' q hi2).2⟩
   rintro rfl
   exact hne (t.inj _ _ _ _ _ hi2 h)
 ·
  rcases hg i b' q1 h1 with ⟨e1,f1,g1⟩|⟨n1,k1⟩ <;> rcases hg j b' q2 h2 with ⟨e2,f2,g2⟩|⟨n2,k2⟩
  ·
   rw [e1,e2]
  ·
   rw [f1] at k2
   rw [e1]
   exact t.inj _ _ _ _ _ h k2
  ·
   rw [f2] at k1
   rw [e2]
   exact t.inj _ _ _ _ _ k1 h
  ·
   exact t.inj _ _ _ _ _ k1 k2
/-- The table's own block is another then: some are gone, some were banned. -/
theorem Tab.drop (t:Tab w W g room tmo ps bs) {ps':Slots} {bs':List Bool} (hk:KeepBut W W2 g none) (hb:W2.heap[g]?=some (.cells (tabC room tmo ps' bs').toArray 85 (0,0))) (hl:ps'.length=16) (hl2:bs'.length=16) (hs:∀ (i b:Nat) (p:Pr),ps'[i]?=some (some (b,p))→ps[i]?=some (some (b,p))) (hbel:Below w.heap.size w W2) :
  Tab w W2 g room tmo ps' bs' :=
 ⟨hb,hl,hl2,fun i b p h=>⟨hk.blk (t.node i b p (hs i b p h)).1 (t.ne (hs i b p h)) (by simp),(t.node i b p (hs i b p h)).2⟩,fun i j b p q h1 h2=>t.inj _ _ _ _ _ (hs _ _ _ h1) (hs _ _ _ h2),t.ge,hbel⟩
/-- The blocks that an act on a table may write. -/
def Foot (g:Nat) (ps:Slots) (k:Nat):Prop:=k=g∨∃ (i:Nat) (p:Pr),ps[i]?=some (some (k,p))
/-- What an act leaves. -/
structure Acted (w W W2:World) (g:Nat) (room tmo:Int) (ps ps':Slots) (bs':List Bool):Prop where
 tab:Tab w W2 g room tmo ps' bs'
 kept:Kept W W2 (Foot g ps)
theorem Acted.refl (t:Tab w W g room tmo ps bs) (hb:Below W.heap.size W W2):Acted w W W2 g room tmo ps ps bs:=⟨t.below hb,Kept.of_below hb _⟩
theorem kept_of_keep {b:Nat} {S:Nat→Prop} (hk:KeepBut W W2 b none) (hS:S b):Kept W W2 S:=⟨hk.1,fun i hi hn=>hk.2 i hi (fun e=>hn (e ▸ hS)) (by simp)⟩
end
/-! ### Who is there -/
theorem peer_f (n:Int):peers_peer.f n=some (decide (1≤n∧n≤15)):=by
 unfold peers_peer.f
 by_cases h:1≤n
 ·
  rw [if_pos h]
  simp [h]
 ·
  rw [if_neg (by omega)]
  simp [h]
theorem tick_f (n:Int):peers_tick.f n=some (decide (0≤n∧n≤1099511627776)):=by
 unfold peers_tick.f
 by_cases h:0≤n
 ·
  rw [if_pos h]
  simp [h]
 ·
  rw [if_neg (by omega)]
  simp [h]
theorem check_f (x y:Int):plane_Check.f x y=some (decide ((-1048576≤x∧x≤1048576)∧(-1048576≤y∧y≤1048576))):=by
 have hw:∀ z:Int,plane_within.f z=some (decide (-1048576≤z∧z≤1048576)):=by
  intro z
  unfold plane_within.f
  by_cases h:-1048576≤z
  ·
   rw [if_pos h]
   simp [h]
  ·
   rw [if_neg (by omega)]
   simp [h]
 unfold plane_Check.f
 rw [hw,hw]
 simp only [Option.bind_some]
 by_cases h:-1048576≤x∧x≤1048576
 ·
  rw [decide_eq_true h,if_pos rfl]
  simp [h]
 ·
  rw [decide_eq_false h,if_neg (by simp)]
  simp [h]
theorem peer_yes (n:Nat) (h1:1≤n) (h2:n≤15) (W:World):Calls Try.prog 46 #[.int .i64 n] W fun e W2=>e=.returned (.bool true)∧Drawn0 W W2 :=
 peers_peer.calls n true W (by rw [peer_f,decide_eq_true (by omega)])
theorem peer_no (n:Int) (h:¬ (1≤n∧n≤15)) (W:World):Calls Try.prog 46 #[.int .i64 n] W fun e W2=>e=.returned (.bool false)∧Drawn0 W W2 :=
 peers_peer.calls n false W (by rw [peer_f,decide_eq_false h])
theorem tick_yes (n:Int) (h:0≤n∧n≤1099511627776) (W:World):Calls Try.prog 48 #[.int .i64 n] W fun e W2=>e=.returned (.bool true)∧Drawn0 W W2 :=
 peers_tick.calls n true W (by rw [tick_f,decide_eq_true h])
theorem tick_no (n:Int) (h:¬ (0≤n∧n≤1099511627776)) (W:World):Calls Try.prog 48 #[.int .i64 n] W fun e W2=>e=.returned (.bool false)∧Drawn0 W W2 :=
 peers_tick.calls n false W (by rw [tick_f,decide_eq_false h])
section
variable {w W:World} {g:Nat} {room tmo:Int} {ps:Slots} {bs:List Bool}
theorem Tab.of_yes (t:Tab w W g room tmo ps bs) (n:Nat) (h1:1≤n) (h2:n≤15):Calls Try.prog 51 #[.pointer (some ⟨g,0,none⟩),.int .i64 n] W fun e W2=>e=.returned (ptrOf (ps.getD n none))∧Drawn0 W W2:=by
 have hc:=t.slot n (by omega)
 have hp:=peer_yes n h1 h2
 obtain ⟨u,hu⟩:∃ u,ptrOf (ps.getD n none)=.pointer u:=by
  cases ps.getD n none with
  | none=>exact ⟨_,rfl⟩
  | some bp=>exact ⟨_,rfl⟩
 rw [hu] at hc ⊢
 have HP:=Aside0.mk hp
 have hn16:(n:Int) < 16:=by omega
 clear hp t hu
 go_enter Try.func51,Try.ntmps51
 go_wp2_with (go_at_call 46;refine (HP.out _).mono ?_;rintro e W2 ⟨rfl,⟨m,rfl⟩⟩)
 go_ret
 exact ⟨rfl,⟨m,rfl⟩⟩
theorem of_no (g:Nat) (n:Int) (h:¬ (1≤n∧n≤15)) (W:World):Calls Try.prog 51 #[.pointer (some ⟨g,0,none⟩),.int .i64 n] W fun e W2=>e=.returned (.pointer none)∧Drawn0 W W2:=by
 have HP:=Aside0.mk (peer_no n h)
 clear h
 go_enter Try.func51,Try.ntmps51
 go_wp2_with (go_at_call 46;refine (HP.out _).mono ?_;rintro e W2 ⟨rfl,⟨m,rfl⟩⟩)
 go_ret
 exact ⟨rfl,⟨m,rfl⟩⟩
end
end Go.Proofs.Ytpejjpecdkbleaa.Print
/-! #### MaPeers2 -/
/- peers: what is set of one peer. -/
namespace Go.Proofs.Ytpejjpecdkbleaa.Print
open Go.RowKit Go.Proofs.YtpejjpecdkbleaaW.PrintWords Go.Proofs.YtpejjpecdkbleaaW.PrintLast Go.Proofs.YtpejjpecdkbleaaW.PrintMore
attribute [local go_sem] max2_int min2_int max_two min_two max_three min_three max_four min_four
set_option linter.unusedVariables false
set_option linter.unusedSimpArgs false
/-- One cell was written. -/
def Wrote (W W2:World) (a:Addr) (v:Value):Prop:=∃ m,W2=(W.setCell a v).drewN m
section
variable {w W:World} {g:Nat} {room tmo:Int} {ps:Slots} {bs:List Bool}
theorem Tab.pcell (t:Tab w W g room tmo ps bs) {n b:Nat} {p:Pr} (h:ps[n]?=some (some (b,p))) (k:Nat):W.cell? ⟨b,k,none⟩=(peerC p)[k]?:=by
 rw [blk_cell (t.node n b p h).1]
 simp
theorem Tab.pfrz (t:Tab w W g room tmo ps bs) {n b:Nat} {p:Pr} (h:ps[n]?=some (some (b,p))) (k:Nat):W.frozen? ⟨b,k,none⟩=false:=blk_frozen (t.node n b p h).1 k
/-- A peer's cell was written. -/
theorem Tab.wrote (t:Tab w W g room tmo ps bs) {W2:World} {n b:Nat} {p:Pr} (h:ps[n]?=some (some (b,p))) (k:Nat) (v:Value) (hw:Wrote W W2 ⟨b,k,none⟩ v) (p':Pr) (hp:peerC p'=(peerC p).set k v) (hf:p'.f0=p.f0) :
  Acted w W W2 g room tmo ps (ps.set n (some (b,p'))) bs:=by
 obtain ⟨m,rfl⟩:=hw
 have hk:KeepBut W ((W.setCell ⟨b,k,none⟩ v).drewN m) b none:=keep_drewN (KeepBut.set_ (KeepBut.refl W b none) k v) m
 refine ⟨t.upd h hk (blk_drewN (blk_put (t.node n b p h).1 k v ?_) m) hf (pw_below_drewN (t.bel.setCell (t.node n b p h).2.1 v) m),kept_of_keep hk (.inr ⟨n,p,h⟩)⟩
 rw [hp]
 simp
theorem Tab.with_some (t:Tab w W g room tmo ps bs) (n:Nat) (h1:1≤n) (h2:n≤15) (b:Nat) (p:Pr) (hp:ps[n]?=some (some (b,p))) (cl:Nat) (lb:Array Value) (eg:∀ args w,(callFunc cl args).run Try.prog w=.ok (.enter cl args) w) (R:World→Prop)
  (hc:∀ W2,Drawn0 W W2→Calls Try.prog cl (#[.pointer (some ⟨b,0,none⟩)] ++ lb) W2 fun e W3=>e=.returned (.tuple #[])∧R W3) :
  Calls Try.prog 49 #[.pointer (some ⟨g,0,none⟩),.int .i64 n,.func (.func cl) #[] lb] W fun e W3=>e=.returned (.int .i64 0)∧R W3:=by
 have hof:=t.of_yes n h1 h2
 have hgd:ps.getD n none=some (b,p):=by rw [List.getD_eq_getElem?_getD,hp];rfl
 rw [hgd] at hof
 have HOF:Aside0 (Calls Try.prog 51 #[.pointer (some ⟨g,0,none⟩),.int .i64 n] W fun e W2=>e=.returned (.pointer (some ⟨b,0,none⟩))∧Drawn0 W W2):=⟨hof⟩
 have HC:=Aside0.mk hc
 clear hof hgd hc t hp
 go_enter Try.func49,Try.ntmps49
 go_wp2_with fail
 refine HOF.out.mono ?_
 rintro e W2 ⟨rfl,hd⟩
 have HD:=Aside0.mk hd
 clear hd HOF
 go_wp2_with (go_at_fn cl;refine (HC.out _ HD.out).mono ?_;rintro e W3 ⟨rfl,hr⟩)
 go_ret
 exact ⟨rfl,hr⟩
theorem with_none (g:Nat) (n:Int) (cl:Nat) (lb:Array Value) (W:World) (hof:Calls Try.prog 51 #[.pointer (some ⟨g,0,none⟩),.int .i64 n] W fun e W2=>e=.returned (.pointer none)∧Drawn0 W W2) :
  Calls Try.prog 49 #[.pointer (some ⟨g,0,none⟩),.int .i64 n,.func (.func cl) #[] lb] W fun e W3=>e=.returned (.int .i64 4)∧Drawn0 W W3:=by
 have HOF:=Aside0.mk hof
 clear hof
 go_enter Try.func49,Try.ntmps49
 go_wp2_with fail
 refine HOF.out.mono ?_
 rintro e W2 ⟨rfl,⟨m,rfl⟩⟩
 go_wp2_with fail
 go_ret
 exact ⟨rfl,⟨m,rfl⟩⟩
theorem Tab.Hear_clo (t:Tab w W g room tmo ps bs) {n b:Nat} {p:Pr} (hp:ps[n]?=some (some (b,p))) (c:Nat) (x:Int) (hc:W.cell? ⟨c,0,none⟩=some (.int .i64 x)) :
  Calls Try.prog 52 #[.pointer (some ⟨b,0,none⟩),.pointer (some ⟨c,0,none⟩)] W fun e W2=>e=.returned (.tuple #[])∧Wrote W W2 ⟨b,7,none⟩ (.int .i64 (mx p.f6 x)):=by
 have c0:=t.pcell hp 7
 simp only [peerC,List.getElem?_cons_succ,List.getElem?_cons_zero] at c0
 have z0:=t.pfrz hp 7
 clear t hp
 go_enter Try.func52,Try.ntmps52
 (try go_wp2)
 go_region
 all_goals (try go_wp2)
 all_goals (go_end0;first|exact ⟨rfl,1,by rw [show mx p.f6 x=x by unfold mx;split <;> omega];rfl⟩|exact ⟨rfl,1,by rw [show mx p.f6 x=p.f6 by unfold mx;split <;> omega];rfl⟩)
theorem Tab.SetHave_clo (t:Tab w W g room tmo ps bs) {n b:Nat} {p:Pr} (hp:ps[n]?=some (some (b,p))) (c:Nat) (x:ByteArray) (hc:W.cell? ⟨c,0,none⟩=some (.string x)) :
  Calls Try.prog 61 #[.pointer (some ⟨b,0,none⟩),.pointer (some ⟨c,0,none⟩)] W fun e W2=>e=.returned (.tuple #[])∧Wrote W W2 ⟨b,3,none⟩ (.string x):=by
 have c0:=t.pcell hp 3
 simp only [peerC,List.getElem?_cons_succ,List.getElem?_cons_zero] at c0
 have z0:=t.pfrz hp 3
 clear t hp
 go_enter Try.func61,Try.ntmps61
 go_wp2
 (go_end0;exact ⟨rfl,0,rfl⟩)
theorem Tab.SetWants_clo (t:Tab w W g room tmo ps bs) {n b:Nat} {p:Pr} (hp:ps[n]?=some (some (b,p))) (c:Nat) (x:Bool) (hc:W.cell? ⟨c,0,none⟩=some (.bool x)) :
  Calls Try.prog 62 #[.pointer (some ⟨b,0,none⟩),.pointer (some ⟨c,0,none⟩)] W fun e W2=>e=.returned (.tuple #[])∧Wrote W W2 ⟨b,4,none⟩ (.bool x):=by
 have c0:=t.pcell hp 4
 simp only [peerC,List.getElem?_cons_succ,List.getElem?_cons_zero] at c0
 have z0:=t.pfrz hp 4
 clear t hp
 go_enter Try.func62,Try.ntmps62
 go_wp2
 (go_end0;exact ⟨rfl,0,rfl⟩)
theorem Tab.SetOpen_clo (t:Tab w W g room tmo ps bs) {n b:Nat} {p:Pr} (hp:ps[n]?=some (some (b,p))) (c:Nat) (x:Bool) (hc:W.cell? ⟨c,0,none⟩=some (.bool x)) :
  Calls Try.prog 63 #[.pointer (some ⟨b,0,none⟩),.pointer (some ⟨c,0,none⟩)] W fun e W2=>e=.returned (.tuple #[])∧Wrote W W2 ⟨b,5,none⟩ (.bool x):=by
 have c0:=t.pcell hp 5
 simp only [peerC,List.getElem?_cons_succ,List.getElem?_cons_zero] at c0
 have z0:=t.pfrz hp 5
 clear t hp
 go_enter Try.func63,Try.ntmps63
 go_wp2
 (go_end0;exact ⟨rfl,0,rfl⟩)
theorem Tab.SetOpens_clo (t:Tab w W g room tmo ps bs) {n b:Nat} {p:Pr} (hp:ps[n]?=some (some (b,p))) (c:Nat) (x:Bool) (hc:W.cell? ⟨c,0,none⟩=some (.bool x)) :
  Calls Try.prog 64 #[.pointer (some ⟨b,0,none⟩),.pointer (some ⟨c,0,none⟩)] W fun e W2=>e=.returned (.tuple #[])∧Wrote W W2 ⟨b,6,none⟩ (.bool x):=by
 have c0:=t.pcell hp 6
 simp only [peerC,List.getElem?_cons_succ,List.getElem?_cons_zero] at c0
 have z0:=t.pfrz hp 6
 clear t hp
 go_enter Try.func64,Try.ntmps64
 go_wp2
 (go_end0;exact ⟨rfl,0,rfl⟩)
theorem Tab.Count_clo (t:Tab w W g room tmo ps bs) {n b:Nat} {p:Pr} (hp:ps[n]?=some (some (b,p))) (c:Nat) (x:Int) (hx:0≤x∧x≤1099511627776) (hq:0≤p.f7∧p.f7≤1099511627776) (hc:W.cell? ⟨c,0,none⟩=some (.int .i64 x)) :
  Calls Try.prog 50 #[.pointer (some ⟨b,0,none⟩),.pointer (some ⟨c,0,none⟩)] W fun e W2=>e=.returned (.tuple #[])∧Wrote W W2 ⟨b,8,none⟩ (.int .i64 (mn (p.f7+x) 1099511627776)):=by
 have c0:=t.pcell hp 8
 simp only [peerC,List.getElem?_cons_succ,List.getElem?_cons_zero] at c0
 have z0:=t.pfrz hp 8
 have hov:wrap64 (p.f7+x)=p.f7+x:=by unfold wrap64;omega
 have hov2:IntKind.i64.wrap (p.f7+x)=p.f7+x:=IntWalk.i64_in _ (by omega)
 clear t hp
 go_enter Try.func50,Try.ntmps50
 (try go_wp2)
 go_region
 all_goals (try go_wp2)
 all_goals (go_end0;first|exact ⟨rfl,1,by rw [show mn (p.f7+x) 1099511627776=p.f7+x by unfold mn;split <;> omega];rfl⟩|exact ⟨rfl,1,by rw [show mn (p.f7+x) 1099511627776=1099511627776 by unfold mn;split <;> omega];rfl⟩)
end
end Go.Proofs.Ytpejjpecdkbleaa.Print
/-! #### MaPeers3 -/
/- peers: Hear, Leave, the setters, Count. -/
namespace Go.Proofs.Ytpejjpecdkbleaa.Print
open Go.RowKit Go.Proofs.YtpejjpecdkbleaaW.PrintWords Go.Proofs.YtpejjpecdkbleaaW.PrintLast Go.Proofs.YtpejjpecdkbleaaW.PrintMore
set_option linter.unusedVariables false
set_option linter.unusedSimpArgs false
section
variable {w W W1 W2:World} {g:Nat} {room tmo:Int} {ps ps':Slots} {bs bs':List Bool}
theorem Acted.after (hb:Below W.heap.size W W1) (a:Acted w W1 W2 g room tmo ps ps' bs'):Acted w W W2 g room tmo ps ps' bs':=⟨a.tab,(Kept.of_below hb _).then_ a.kept (fun _ h=>.inl h)⟩
/-- A peer that is not there. -/
theorem Tab.of_none (t:Tab w W g room tmo ps bs) (n:Int) (h:¬ (1≤n∧n≤15)∨ps.getD n.toNat none=none):Calls Try.prog 51 #[.pointer (some ⟨g,0,none⟩),.int .i64 n] W fun e W2=>e=.returned (.pointer none)∧Drawn0 W W2:=by
 by_cases hn:1≤n∧n≤15
 ·
  obtain ⟨n,rfl⟩:=Int.eq_ofNat_of_zero_le (show 0≤n by omega)
  have hs:=h.resolve_left (fun k=>k hn)
  rw [Int.toNat_natCast] at hs
  have:=t.of_yes n (by omega) (by omega)
  rw [hs] at this
  exact this
 ·
  exact of_no g n hn W
theorem Tab.Hear_yes (t:Tab w W g room tmo ps bs) (n:Nat) (h1:1≤n) (h2:n≤15) {b:Nat} {p:Pr} (hp:ps[n]?=some (some (b,p))) (x:Int) (hx:0≤x∧x≤1099511627776) :
  Calls Try.prog 19 #[.pointer (some ⟨g,0,none⟩),.int .i64 n,.int .i64 x] W fun e W2=>e=.returned (.int .i64 0)∧Acted w W W2 g room tmo ps (ps.set n (some (b,{ p with f6:=mx p.f6 x }))) bs:=by
 have eg:∀ args w,(callFunc 52 args).run Try.prog w=.ok (.enter 52 args) w:=enters_of Try.func52 (by kernel_rfl) rfl
 have EG:=Aside0.mk eg
 have HT:=Aside0.mk t
 have HP:=Aside0.mk hp
 have HTK:=Aside0.mk (tick_yes x hx)
 clear t hp eg
 go_enter Try.func19,Try.ntmps19
 go_wp2_with fail
 refine (HTK.out _).mono ?_
 rintro e W2 ⟨rfl,⟨m,rfl⟩⟩
 go_wp2_with fail
 have hbel:Below W.heap.size W ((W.alloc (.cells #[.int .i64 x] 3)).drewN m):=pw_below_drewN (below_alloc (Below.refl W.heap.size W) (.cells #[.int .i64 x] 3)) m
 refine ((HT.out.below hbel).with_some n h1 h2 b p HP.out 52 #[.pointer (some ⟨W.heap.size,0,none⟩)] EG.out (fun W3=>Acted w W W3 g room tmo ps (ps.set n (some (b,{ p with f6:=mx p.f6 x }))) bs) ?hc).mono ?_
 case hc =>
  rintro W2 ⟨q,rfl⟩
  refine (((HT.out.below hbel).drewN q).Hear_clo HP.out W.heap.size x (by simp)).mono ?_
  rintro e W3 ⟨rfl,hw⟩
  exact ⟨rfl,Acted.after (pw_below_drewN hbel q) (((HT.out.below hbel).drewN q).wrote HP.out 7 _ hw _ rfl rfl)⟩
 rintro e W3 ⟨rfl,ha⟩
 have HA:=Aside0.mk ha
 clear ha hbel
 go_wp2_with fail
 go_ret
 exact ⟨rfl,HA.out⟩
theorem Tab.Hear_none (t:Tab w W g room tmo ps bs) (n:Int) (h:¬ (1≤n∧n≤15)∨ps.getD n.toNat none=none) (x:Int) (hx:0≤x∧x≤1099511627776) :
  Calls Try.prog 19 #[.pointer (some ⟨g,0,none⟩),.int .i64 n,.int .i64 x] W fun e W2=>e=.returned (.int .i64 4)∧Acted w W W2 g room tmo ps ps bs:=by
 have HT:=Aside0.mk t
 have HN:=Aside0.mk h
 have HTK:=Aside0.mk (tick_yes x hx)
 clear t h
 go_enter Try.func19,Try.ntmps19
 go_wp2_with fail
 refine (HTK.out _).mono ?_
 rintro e W2 ⟨rfl,⟨m,rfl⟩⟩
 go_wp2_with fail
 have hbel:Below W.heap.size W ((W.alloc (.cells #[.int .i64 x] 3)).drewN m):=pw_below_drewN (below_alloc (Below.refl W.heap.size W) (.cells #[.int .i64 x] 3)) m
 refine (with_none g n 52 #[.pointer (some ⟨W.heap.size,0,none⟩)] _ ((HT.out.below hbel).of_none n HN.out)).mono ?_
 rintro e W3 ⟨rfl,hd⟩
 have HA:=Aside0.mk (show Acted w W _ g room tmo ps ps bs from Acted.refl HT.out (below_step hbel (Drawn0.below hd)))
 clear hbel hd
 go_wp2_with fail
 go_ret
 exact ⟨rfl,HA.out⟩
theorem Tab.Hear_bad (t:Tab w W g room tmo ps bs) (n:Int) (x:Int) (hx:¬ (0≤x∧x≤1099511627776)) :
  Calls Try.prog 19 #[.pointer (some ⟨g,0,none⟩),.int .i64 n,.int .i64 x] W fun e W2=>e=.returned (.int .i64 1)∧Acted w W W2 g room tmo ps ps bs:=by
 have HT:=Aside0.mk t
 clear t
 have HTK:=Aside0.mk (tick_no x hx)
 clear hx
 go_enter Try.func19,Try.ntmps19
 go_wp2_with fail
 refine (HTK.out _).mono ?_
 rintro e W2 ⟨rfl,⟨m,rfl⟩⟩
 go_wp2_with fail
 go_ret
 exact ⟨rfl,Acted.refl HT.out (pw_below_drewN (below_alloc (Below.refl _ _) _) m)⟩
theorem Tab.SetHave_yes (t:Tab w W g room tmo ps bs) (n:Nat) (h1:1≤n) (h2:n≤15) {b:Nat} {p:Pr} (hp:ps[n]?=some (some (b,p))) (x:ByteArray) (hx:(x.size:Int)≤20) :
  Calls Try.prog 29 #[.pointer (some ⟨g,0,none⟩),.int .i64 n,.string x] W fun e W2=>e=.returned (.int .i64 0)∧Acted w W W2 g room tmo ps (ps.set n (some (b,{ p with f2:=x }))) bs:=by
 have eg:∀ args w,(callFunc 61 args).run Try.prog w=.ok (.enter 61 args) w:=enters_of Try.func61 (by kernel_rfl) rfl
 have EG:=Aside0.mk eg
 have HT:=Aside0.mk t
 have HP:=Aside0.mk hp
 clear t hp eg
 go_enter Try.func29,Try.ntmps29
 go_wp2_with fail
 have hbel:Below W.heap.size W (W.alloc (.cells #[.string x] 9)):=below_alloc (Below.refl W.heap.size W) (.cells #[.string x] 9)
 refine ((HT.out.below hbel).with_some n h1 h2 b p HP.out 61 #[.pointer (some ⟨W.heap.size,0,none⟩)] EG.out (fun W3=>Acted w W W3 g room tmo ps (ps.set n (some (b,{ p with f2:=x }))) bs) ?hc).mono ?_
 case hc =>
  rintro W2 ⟨q,rfl⟩
  refine (((HT.out.below hbel).drewN q).SetHave_clo HP.out W.heap.size x (by simp)).mono ?_
  rintro e W3 ⟨rfl,hw⟩
  exact ⟨rfl,Acted.after (pw_below_drewN hbel q) (((HT.out.below hbel).drewN q).wrote HP.out 3 _ hw _ rfl rfl)⟩
 rintro e W3 ⟨rfl,ha⟩
 have HA:=Aside0.mk ha
 clear ha hbel
 go_wp2_with fail
 go_ret
 exact ⟨rfl,HA.out⟩
theorem Tab.SetHave_none (t:Tab w W g room tmo ps bs) (n:Int) (h:¬ (1≤n∧n≤15)∨ps.getD n.toNat none=none) (x:ByteArray) (hx:(x.size:Int)≤20) :
  Calls Try.prog 29 #[.pointer (some ⟨g,0,none⟩),.int .i64 n,.string x] W fun e W2=>e=.returned (.int .i64 4)∧Acted w W W2 g room tmo ps ps bs:=by
 have HT:=Aside0.mk t
 have HN:=Aside0.mk h
 clear t h
 go_enter Try.func29,Try.ntmps29
 go_wp2_with fail
 have hbel:Below W.heap.size W (W.alloc (.cells #[.string x] 9)):=below_alloc (Below.refl W.heap.size W) (.cells #[.string x] 9)
 refine (with_none g n 61 #[.pointer (some ⟨W.heap.size,0,none⟩)] _ ((HT.out.below hbel).of_none n HN.out)).mono ?_
 rintro e W3 ⟨rfl,hd⟩
 have HA:=Aside0.mk (show Acted w W _ g room tmo ps ps bs from Acted.refl HT.out (below_step hbel (Drawn0.below hd)))
 clear hbel hd
 go_wp2_with fail
 go_ret
 exact ⟨rfl,HA.out⟩
theorem Tab.SetHave_bad (t:Tab w W g room tmo ps bs) (n:Int) (x:ByteArray) (hx:¬ (x.size:Int)≤20) :
  Calls Try.prog 29 #[.pointer (some ⟨g,0,none⟩),.int .i64 n,.string x] W fun e W2=>e=.returned (.int .i64 1)∧Acted w W W2 g room tmo ps ps bs:=by
 have HT:=Aside0.mk t
 clear t
 have hx2:(x.size:Int) > 20:=by omega
 go_enter Try.func29,Try.ntmps29
 go_wp2_with fail
 go_ret
 exact ⟨rfl,Acted.refl HT.out (below_alloc (Below.refl _ _) _)⟩
theorem Tab.SetWants_yes (t:Tab w W g room tmo ps bs) (n:Nat) (h1:1≤n) (h2:n≤15) {b:Nat} {p:Pr} (hp:ps[n]?=some (some (b,p))) (x:Bool) :
  Calls Try.prog 30 #[.pointer (some ⟨g,0,none⟩),.int .i64 n,.bool x] W fun e W2=>e=.returned (.int .i64 0)∧Acted w W W2 g room tmo ps (ps.set n (some (b,{ p with f3:=x }))) bs:=by
 have eg:∀ args w,(callFunc 62 args).run Try.prog w=.ok (.enter 62 args) w:=enters_of Try.func62 (by kernel_rfl) rfl
 have EG:=Aside0.mk eg
 have HT:=Aside0.mk t
 have HP:=Aside0.mk hp
 clear t hp eg
 go_enter Try.func30,Try.ntmps30
 go_wp2_with fail
 have hbel:Below W.heap.size W (W.alloc (.cells #[.bool x] 4)):=below_alloc (Below.refl W.heap.size W) (.cells #[.bool x] 4)
 refine ((HT.out.below hbel).with_some n h1 h2 b p HP.out 62 #[.pointer (some ⟨W.heap.size,0,none⟩)] EG.out (fun W3=>Acted w W W3 g room tmo ps (ps.set n (some (b,{ p with f3:=x }))) bs) ?hc).mono ?_
 case hc =>
  rintro W2 ⟨q,rfl⟩
  refine (((HT.out.below hbel).drewN q).SetWants_clo HP.out W.heap.size x (by simp)).mono ?_
  rintro e W3 ⟨rfl,hw⟩
  exact ⟨rfl,Acted.after (pw_below_drewN hbel q) (((HT.out.below hbel).drewN q).wrote HP.out 4 _ hw _ rfl rfl)⟩
 rintro e W3 ⟨rfl,ha⟩
 have HA:=Aside0.mk ha
 clear ha hbel
 go_wp2_with fail
 go_ret
 exact ⟨rfl,HA.out⟩
theorem Tab.SetWants_none (t:Tab w W g room tmo ps bs) (n:Int) (h:¬ (1≤n∧n≤15)∨ps.getD n.toNat none=none) (x:Bool) :
  Calls Try.prog 30 #[.pointer (some ⟨g,0,none⟩),.int .i64 n,.bool x] W fun e W2=>e=.returned (.int .i64 4)∧Acted w W W2 g room tmo ps ps bs:=by
 have HT:=Aside0.mk t
 have HN:=Aside0.mk h
 clear t h
 go_enter Try.func30,Try.ntmps30
 go_wp2_with fail
 have hbel:Below W.heap.size W (W.alloc (.cells #[.bool x] 4)):=below_alloc (Below.refl W.heap.size W) (.cells #[.bool x] 4)
 refine (with_none g n 62 #[.pointer (some ⟨W.heap.size,0,none⟩)] _ ((HT.out.below hbel).of_none n HN.out)).mono ?_
 rintro e W3 ⟨rfl,hd⟩
 have HA:=Aside0.mk (show Acted w W _ g room tmo ps ps bs from Acted.refl HT.out (below_step hbel (Drawn0.below hd)))
 clear hbel hd
 go_wp2_with fail
 go_ret
 exact ⟨rfl,HA.out⟩
theorem Tab.SetOpen_yes (t:Tab w W g room tmo ps bs) (n:Nat) (h1:1≤n) (h2:n≤15) {b:Nat} {p:Pr} (hp:ps[n]?=some (some (b,p))) (x:Bool) :
  Calls Try.prog 31 #[.pointer (some ⟨g,0,none⟩),.int .i64 n,.bool x] W fun e W2=>e=.returned (.int .i64 0)∧Acted w W W2 g room tmo ps (ps.set n (some (b,{ p with f4:=x }))) bs:=by
 have eg:∀ args w,(callFunc 63 args).run Try.prog w=.ok (.enter 63 args) w:=enters_of Try.func63 (by kernel_rfl) rfl
 have EG:=Aside0.mk eg
 have HT:=Aside0.mk t
 have HP:=Aside0.mk hp
 clear t hp eg
 go_enter Try.func31,Try.ntmps31
 go_wp2_with fail
 have hbel:Below W.heap.size W (W.alloc (.cells #[.bool x] 4)):=below_alloc (Below.refl W.heap.size W) (.cells #[.bool x] 4)
 refine ((HT.out.below hbel).with_some n h1 h2 b p HP.out 63 #[.pointer (some ⟨W.heap.size,0,none⟩)] EG.out (fun W3=>Acted w W W3 g room tmo ps (ps.set n (some (b,{ p with f4:=x }))) bs) ?hc).mono ?_
 case hc =>
  rintro W2 ⟨q,rfl⟩
  refine (((HT.out.below hbel).drewN q).SetOpen_clo HP.out W.heap.size x (by simp)).mono ?_
  rintro e W3 ⟨rfl,hw⟩
  exact ⟨rfl,Acted.after (pw_below_drewN hbel q) (((HT.out.below hbel).drewN q).wrote HP.out 5 _ hw _ rfl rfl)⟩
 rintro e W3 ⟨rfl,ha⟩
 have HA:=Aside0.mk ha
 clear ha hbel
 go_wp2_with fail
 go_ret
 exact ⟨rfl,HA.out⟩
theorem Tab.SetOpen_none (t:Tab w W g room tmo ps bs) (n:Int) (h:¬ (1≤n∧n≤15)∨ps.getD n.toNat none=none) (x:Bool) :
  Calls Try.prog 31 #[.pointer (some ⟨g,0,none⟩),.int .i64 n,.bool x] W fun e W2=>e=.returned (.int .i64 4)∧Acted w W W2 g room tmo ps ps bs:=by
 have HT:=Aside0.mk t
 have HN:=Aside0.mk h
 clear t h
 go_enter Try.func31,Try.ntmps31
 go_wp2_with fail
 have hbel:Below W.heap.size W (W.alloc (.cells #[.bool x] 4)):=below_alloc (Below.refl W.heap.size W) (.cells #[.bool x] 4)
 refine (with_none g n 63 #[.pointer (some ⟨W.heap.size,0,none⟩)] _ ((HT.out.below hbel).of_none n HN.out)).mono ?_
 rintro e W3 ⟨rfl,hd⟩
 have HA:=Aside0.mk (show Acted w W _ g room tmo ps ps bs from Acted.refl HT.out (below_step hbel (Drawn0.below hd)))
 clear hbel hd
 go_wp2_with fail
 go_ret
 exact ⟨rfl,HA.out⟩
theorem Tab.SetOpens_yes (t:Tab w W g room tmo ps bs) (n:Nat) (h1:1≤n) (h2:n≤15) {b:Nat} {p:Pr} (hp:ps[n]?=some (some (b,p))) (x:Bool) :
  Calls Try.prog 32 #[.pointer (some ⟨g,0,none⟩),.int .i64 n,.bool x] W fun e W2=>e=.returned (.int .i64 0)∧Acted w W W2 g room tmo ps (ps.set n (some (b,{ p with f5:=x }))) bs:=by
 have eg:∀ args w,(callFunc 64 args).run Try.prog w=.ok (.enter 64 args) w:=enters_of Try.func64 (by kernel_rfl) rfl
 have EG:=Aside0.mk eg
 have HT:=Aside0.mk t
 have HP:=Aside0.mk hp
 clear t hp eg
 go_enter Try.func32,Try.ntmps32
 go_wp2_with fail
 have hbel:Below W.heap.size W (W.alloc (.cells #[.bool x] 4)):=below_alloc (Below.refl W.heap.size W) (.cells #[.bool x] 4)
 refine ((HT.out.below hbel).with_some n h1 h2 b p HP.out 64 #[.pointer (some ⟨W.heap.size,0,none⟩)] EG.out (fun W3=>Acted w W W3 g room tmo ps (ps.set n (some (b,{ p with f5:=x }))) bs) ?hc).mono ?_
 case hc =>
  rintro W2 ⟨q,rfl⟩
  refine (((HT.out.below hbel).drewN q).SetOpens_clo HP.out W.heap.size x (by simp)).mono ?_
  rintro e W3 ⟨rfl,hw⟩
  exact ⟨rfl,Acted.after (pw_below_drewN hbel q) (((HT.out.below hbel).drewN q).wrote HP.out 6 _ hw _ rfl rfl)⟩
 rintro e W3 ⟨rfl,ha⟩
 have HA:=Aside0.mk ha
 clear ha hbel
 go_wp2_with fail
 go_ret
 exact ⟨rfl,HA.out⟩
theorem Tab.SetOpens_none (t:Tab w W g room tmo ps bs) (n:Int) (h:¬ (1≤n∧n≤15)∨ps.getD n.toNat none=none) (x:Bool) :
  Calls Try.prog 32 #[.pointer (some ⟨g,0,none⟩),.int .i64 n,.bool x] W fun e W2=>e=.returned (.int .i64 4)∧Acted w W W2 g room tmo ps ps bs:=by
 have HT:=Aside0.mk t
 have HN:=Aside0.mk h
 clear t h
 go_enter Try.func32,Try.ntmps32
 go_wp2_with fail
 have hbel:Below W.heap.size W (W.alloc (.cells #[.bool x] 4)):=below_alloc (Below.refl W.heap.size W) (.cells #[.bool x] 4)
 refine (with_none g n 64 #[.pointer (some ⟨W.heap.size,0,none⟩)] _ ((HT.out.below hbel).of_none n HN.out)).mono ?_
 rintro e W3 ⟨rfl,hd⟩
 have HA:=Aside0.mk (show Acted w W _ g room tmo ps ps bs from Acted.refl HT.out (below_step hbel (Drawn0.below hd)))
 clear hbel hd
 go_wp2_with fail
 go_ret
 exact ⟨rfl,HA.out⟩
theorem Tab.Count_yes (t:Tab w W g room tmo ps bs) (n:Nat) (h1:1≤n) (h2:n≤15) {b:Nat} {p:Pr} (hp:ps[n]?=some (some (b,p))) (x:Int) (hx:0≤x∧x≤1099511627776) (hq:0≤p.f7∧p.f7≤1099511627776) :
  Calls Try.prog 15 #[.pointer (some ⟨g,0,none⟩),.int .i64 n,.int .i64 x] W fun e W2=>e=.returned (.int .i64 0)∧Acted w W W2 g room tmo ps (ps.set n (some (b,{ p with f7:=mn (p.f7+x) 1099511627776 }))) bs:=by
 have eg:∀ args w,(callFunc 50 args).run Try.prog w=.ok (.enter 50 args) w:=enters_of Try.func50 (by kernel_rfl) rfl
 have EG:=Aside0.mk eg
 have HT:=Aside0.mk t
 have HP:=Aside0.mk hp
 obtain ⟨hx0,hx1⟩:=hx
 clear t hp eg
 go_enter Try.func15,Try.ntmps15
 go_wp2_with fail
 have hbel:Below W.heap.size W (W.alloc (.cells #[.int .i64 x] 3)):=below_alloc (Below.refl W.heap.size W) (.cells #[.int .i64 x] 3)
 refine ((HT.out.below hbel).with_some n h1 h2 b p HP.out 50 #[.pointer (some ⟨W.heap.size,0,none⟩)] EG.out (fun W3=>Acted w W W3 g room tmo ps (ps.set n (some (b,{ p with f7:=mn (p.f7+x) 1099511627776 }))) bs) ?hc).mono ?_
 case hc =>
  rintro W2 ⟨q,rfl⟩
  refine (((HT.out.below hbel).drewN q).Count_clo HP.out W.heap.size x ⟨hx0,hx1⟩ hq (by simp)).mono ?_
  rintro e W3 ⟨rfl,hw⟩
  exact ⟨rfl,Acted.after (pw_below_drewN hbel q) (((HT.out.below hbel).drewN q).wrote HP.out 8 _ hw _ rfl rfl)⟩
 rintro e W3 ⟨rfl,ha⟩
 have HA:=Aside0.mk ha
 clear ha hbel
 go_wp2_with fail
 go_ret
 exact ⟨rfl,HA.out⟩
theorem Tab.Count_none (t:Tab w W g room tmo ps bs) (n:Int) (h:¬ (1≤n∧n≤15)∨ps.getD n.toNat none=none) (x:Int) (hx:0≤x∧x≤1099511627776) :
  Calls Try.prog 15 #[.pointer (some ⟨g,0,none⟩),.int .i64 n,.int .i64 x] W fun e W2=>e=.returned (.int .i64 4)∧Acted w W W2 g room tmo ps ps bs:=by
 have HT:=Aside0.mk t
 have HN:=Aside0.mk h
 obtain ⟨hx0,hx1⟩:=hx
 clear t h
 go_enter Try.func15,Try.ntmps15
 go_wp2_with fail
 have hbel:Below W.heap.size W (W.alloc (.cells #[.int .i64 x] 3)):=below_alloc (Below.refl W.heap.size W) (.cells #[.int .i64 x] 3)
 refine (with_none g n 50 #[.pointer (some ⟨W.heap.size,0,none⟩)] _ ((HT.out.below hbel).of_none n HN.out)).mono ?_
 rintro e W3 ⟨rfl,hd⟩
 have HA:=Aside0.mk (show Acted w W _ g room tmo ps ps bs from Acted.refl HT.out (below_step hbel (Drawn0.below hd)))
 clear hbel hd
 go_wp2_with fail
 go_ret
 exact ⟨rfl,HA.out⟩
theorem Tab.Count_bad (t:Tab w W g room tmo ps bs) (n:Int) (x:Int) (hx:¬ (0≤x∧x≤1099511627776)) :
  Calls Try.prog 15 #[.pointer (some ⟨g,0,none⟩),.int .i64 n,.int .i64 x] W fun e W2=>e=.returned (.int .i64 1)∧Acted w W W2 g room tmo ps ps bs:=by
 have HT:=Aside0.mk t
 clear t
 by_cases hx0:x < 0
 all_goals
  first|(have hx1:x > 1099511627776:=by omega)|skip
  clear hx
  go_enter Try.func15,Try.ntmps15
  go_wp2_with fail
  go_ret
  exact ⟨rfl,Acted.refl HT.out (below_alloc (Below.refl _ _) _)⟩
end
end Go.Proofs.Ytpejjpecdkbleaa.Print
/-! #### MaPeers4 -/
/- peers: New, Leave, Ban, Banned, Get. -/
namespace Go.Proofs.Ytpejjpecdkbleaa.Print
open Go.RowKit Go.Proofs.YtpejjpecdkbleaaW.PrintWords Go.Proofs.YtpejjpecdkbleaaW.PrintLast Go.Proofs.YtpejjpecdkbleaaW.PrintMore
set_option linter.unusedVariables false
set_option linter.unusedSimpArgs false
theorem tabC_slot (room tmo:Int) (ps:Slots) (bs:List Bool) (n:Nat) (o:Option (Nat×Pr)) (h:n < ps.length):(tabC room tmo ps bs).set (2+n) (ptrOf o)=tabC room tmo (ps.set n o) bs:=by
 rw [show 2+n=n+2 by omega]
 simp only [tabC,List.set_cons_succ]
 rw [List.set_append_left _ _ (by rw [List.length_map];exact h),List.map_set]
theorem tabC_ban (room tmo:Int) (ps:Slots) (bs:List Bool) (n:Nat) (b:Bool) (h:ps.length=16):(tabC room tmo ps bs).set (18+n) (.bool b)=tabC room tmo ps (bs.set n b):=by
 rw [show 18+n=(16+n)+2 by omega]
 simp only [tabC,List.set_cons_succ]
 rw [List.set_append_right _ _ (by rw [List.length_map];omega),List.length_map,h,show 16+n - 16=n by omega,List.map_set]
def noP:Slots:=List.replicate 16 none
def noB:List Bool:=List.replicate 16 false
theorem new_yes (room tmo:Int) (w:World) (h:1≤room∧room≤15∧1≤tmo∧tmo≤1099511627776) :
  Calls Try.prog 12 #[.int .i64 room,.int .i64 tmo] w fun e w'=>∃ g,e=.returned (.pointer (some ⟨g,0,none⟩))∧Tab w w' g room tmo noP noB:=by
 obtain ⟨h1,h2,h3,h4⟩:=h
 have hb:=heap_alloc_new w (.cells (tabC room tmo noP noB).toArray 85)
 go_enter Try.func12,Try.ntmps12
 go_wp2
 go_ret
 exact ⟨w.heap.size,rfl,hb,rfl,rfl,fun i b p hi=>by
  have:=List.mem_of_getElem? hi
  simp [noP] at this,fun i j b p q hi _=>by
  have:=List.mem_of_getElem? hi
  simp [noP] at this,Nat.le_refl _,below_alloc (Below.refl _ _) _⟩
theorem new_no (room tmo:Int) (w:World) (h:¬ (1≤room∧room≤15∧1≤tmo∧tmo≤1099511627776)) :
  Calls Try.prog 12 #[.int .i64 room,.int .i64 tmo] w fun e w'=>e=.returned (.pointer none)∧Below w.heap.size w w':=by
 by_cases h1:room < 1
 ·
  go_enter Try.func12,Try.ntmps12
  go_wp2
  go_ret
  exact ⟨rfl,Below.refl _ _⟩
 by_cases h2:room > 15
 ·
  go_enter Try.func12,Try.ntmps12
  go_wp2
  go_ret
  exact ⟨rfl,Below.refl _ _⟩
 by_cases h3:tmo < 1
 ·
  go_enter Try.func12,Try.ntmps12
  go_wp2
  go_ret
  exact ⟨rfl,Below.refl _ _⟩
 ·
  have h4:tmo > 1099511627776:=by omega
  clear h
  go_enter Try.func12,Try.ntmps12
  go_wp2
  go_ret
  exact ⟨rfl,Below.refl _ _⟩
section
variable {w W W1 W2:World} {g:Nat} {room tmo:Int} {ps ps':Slots} {bs bs':List Bool}
theorem Tab.Leave_clo (t:Tab w W g room tmo ps bs) {n b:Nat} {p:Pr} (hp:ps[n]?=some (some (b,p))) (c:Nat) (hc:W.cell? ⟨c,0,none⟩=some (.pointer (some ⟨g,0,none⟩))) :
  Calls Try.prog 60 #[.pointer (some ⟨b,0,none⟩),.pointer (some ⟨c,0,none⟩)] W fun e W2=>e=.returned (.tuple #[])∧Wrote W W2 ⟨g,2+n,none⟩ (.pointer none):=by
 have hn:n < 16:=by have:=(List.getElem?_eq_some_iff.1 hp).1;have:=t.lp;omega
 have c0:=t.pcell hp 0
 simp only [peerC,List.getElem?_cons_zero] at c0
 rw [(t.node n b p hp).2.2] at c0
 have c1:=t.slot n hn
 have z1:=t.frz (2+n)
 have hnz:(n:Int) < 16:=by omega
 clear t hp
 go_enter Try.func60,Try.ntmps60
 (try go_wp2)
 go_region
 all_goals (try go_wp2)
 all_goals (go_end0;exact ⟨rfl,1,rfl⟩)
theorem Tab.gone (t:Tab w W g room tmo ps bs) {n:Nat} (hn:n < 16) (hw:Wrote W W2 ⟨g,2+n,none⟩ (.pointer none)):Acted w W W2 g room tmo ps (ps.set n none) bs:=by
 obtain ⟨m,rfl⟩:=hw
 have hl:=t.lp
 have hk:KeepBut W ((W.setCell ⟨g,2+n,none⟩ (.pointer none)).drewN m) g none:=keep_drewN (KeepBut.set_ (KeepBut.refl W g none) (2+n) (.pointer none)) m
 refine ⟨t.drop hk (blk_drewN (blk_put t.blk (2+n) (.pointer none) ?_) m) (by rw [List.length_set];exact hl) t.lb (fun i b p hi=>?_) (pw_below_drewN (t.bel.setCell t.ge _) m),kept_of_keep hk (.inl rfl)⟩
 ·
  rw [← tabC_slot room tmo ps bs n none (by omega)]
  simp [ptrOf]
 ·
  by_cases hin:i=n
  ·
   subst hin
   rw [List.getElem?_set_self (by omega)] at hi
   simp at hi
  ·
   rwa [List.getElem?_set_ne (Ne.symm hin)] at hi
theorem Tab.Leave_yes (t:Tab w W g room tmo ps bs) (n:Nat) (h1:1≤n) (h2:n≤15) {b:Nat} {p:Pr} (hp:ps[n]?=some (some (b,p))) :
  Calls Try.prog 27 #[.pointer (some ⟨g,0,none⟩),.int .i64 n] W fun e W2=>e=.returned (.int .i64 0)∧Acted w W W2 g room tmo ps (ps.set n none) bs:=by
 have eg:∀ args w,(callFunc 60 args).run Try.prog w=.ok (.enter 60 args) w:=enters_of Try.func60 (by kernel_rfl) rfl
 have EG:=Aside0.mk eg
 have HT:=Aside0.mk t
 have HP:=Aside0.mk hp
 clear t hp eg
 go_enter Try.func27,Try.ntmps27
 go_wp2_with fail
 have hbel:Below W.heap.size W (W.alloc (.cells #[.pointer (some ⟨g,0,none⟩)] 24)):=below_alloc (Below.refl W.heap.size W) _
 refine ((HT.out.below hbel).with_some n h1 h2 b p HP.out 60 #[.pointer (some ⟨W.heap.size,0,none⟩)] EG.out (fun W3=>Acted w W W3 g room tmo ps (ps.set n none) bs) ?hc).mono ?_
 case hc =>
  rintro W2 ⟨q,rfl⟩
  refine (((HT.out.below hbel).drewN q).Leave_clo HP.out W.heap.size (by simp)).mono ?_
  rintro e W3 ⟨rfl,hw⟩
  exact ⟨rfl,Acted.after (pw_below_drewN hbel q) (((HT.out.below hbel).drewN q).gone (by omega) hw)⟩
 rintro e W3 ⟨rfl,ha⟩
 have HA:=Aside0.mk ha
 clear ha hbel
 go_wp2_with fail
 go_ret
 exact ⟨rfl,HA.out⟩
theorem Tab.Leave_none (t:Tab w W g room tmo ps bs) (n:Int) (h:¬ (1≤n∧n≤15)∨ps.getD n.toNat none=none) :
  Calls Try.prog 27 #[.pointer (some ⟨g,0,none⟩),.int .i64 n] W fun e W2=>e=.returned (.int .i64 4)∧Acted w W W2 g room tmo ps ps bs:=by
 have HT:=Aside0.mk t
 have HN:=Aside0.mk h
 clear t h
 go_enter Try.func27,Try.ntmps27
 go_wp2_with fail
 have hbel:Below W.heap.size W (W.alloc (.cells #[.pointer (some ⟨g,0,none⟩)] 24)):=below_alloc (Below.refl W.heap.size W) _
 refine (with_none g n 60 #[.pointer (some ⟨W.heap.size,0,none⟩)] _ ((HT.out.below hbel).of_none n HN.out)).mono ?_
 rintro e W3 ⟨rfl,hd⟩
 have HA:=Aside0.mk (show Acted w W _ g room tmo ps ps bs from Acted.refl HT.out (below_step hbel (Drawn0.below hd)))
 clear hbel hd
 go_wp2_with fail
 go_ret
 exact ⟨rfl,HA.out⟩
theorem Tab.banned (t:Tab w W g room tmo ps bs) {n:Nat} (hn:n < 16):Acted w W ((W.setCell ⟨g,2+n,none⟩ (.pointer none)).setCell ⟨g,18+n,none⟩ (.bool true)) g room tmo ps (ps.set n none) (bs.set n true):=by
 have hl:=t.lp
 have hk:KeepBut W ((W.setCell ⟨g,2+n,none⟩ (.pointer none)).setCell ⟨g,18+n,none⟩ (.bool true)) g none:=KeepBut.set_ (KeepBut.set_ (KeepBut.refl W g none) (2+n) (.pointer none)) (18+n) (.bool true)
 have hb1:(W.setCell ⟨g,2+n,none⟩ (.pointer none)).heap[g]?=some (.cells (tabC room tmo (ps.set n none) bs).toArray 85 (0,0)):=blk_put t.blk (2+n) (.pointer none) (by rw [← tabC_slot room tmo ps bs n none (by omega)];simp [ptrOf])
 refine ⟨t.drop hk (blk_put hb1 (18+n) (.bool true) ?_) (by rw [List.length_set];exact hl) (by rw [List.length_set];exact t.lb) (fun i b p hi=>?_) ((t.bel.setCell t.ge _).setCell t.ge _),kept_of_keep hk (.inl rfl)⟩
 ·
  rw [← tabC_ban room tmo (ps.set n none) bs n true (by rw [List.length_set];exact hl)]
  simp
 ·
  by_cases hin:i=n
  ·
   subst hin
   rw [List.getElem?_set_self (by omega)] at hi
   simp at hi
  ·
   rwa [List.getElem?_set_ne (Ne.symm hin)] at hi
theorem Tab.Ban_yes (t:Tab w W g room tmo ps bs) (n:Nat) (h1:1≤n) (h2:n≤15) :
  Calls Try.prog 28 #[.pointer (some ⟨g,0,none⟩),.int .i64 n] W fun e W2=>e=.returned (.int .i64 0)∧Acted w W W2 g room tmo ps (ps.set n none) (bs.set n true):=by
 have HP:=Aside0.mk (peer_yes n h1 h2)
 have c1:=t.slot n (by omega)
 have c2:=t.ban n (by omega)
 have z1:=t.frz (2+n)
 have z2:=t.frz (18+n)
 have hnz:(n:Int) < 16:=by omega
 have HT:=Aside0.mk t
 clear t
 go_enter Try.func28,Try.ntmps28
 go_wp2_with (go_at_call 46;refine (HP.out _).mono ?_;rintro e W2 ⟨rfl,⟨m,rfl⟩⟩)
 go_region
 all_goals (try go_wp2)
 go_ret
 exact ⟨rfl,Acted.after (pw_below_drewN (Below.refl _ _) (m+1)) ((HT.out.drewN (m+1)).banned (by omega))⟩
theorem Tab.Ban_bad (t:Tab w W g room tmo ps bs) (n:Int) (h:¬ (1≤n∧n≤15)) :
  Calls Try.prog 28 #[.pointer (some ⟨g,0,none⟩),.int .i64 n] W fun e W2=>e=.returned (.int .i64 1)∧Acted w W W2 g room tmo ps ps bs:=by
 have HP:=Aside0.mk (peer_no n h)
 have HT:=Aside0.mk t
 clear t h
 go_enter Try.func28,Try.ntmps28
 go_wp2_with (go_at_call 46;refine (HP.out _).mono ?_;rintro e W2 ⟨rfl,⟨m,rfl⟩⟩)
 go_ret
 exact ⟨rfl,Acted.refl HT.out (pw_below_drewN (Below.refl _ _) m)⟩
theorem Tab.Banned_yes (t:Tab w W g room tmo ps bs) (n:Nat) (h1:1≤n) (h2:n≤15) :
  Calls Try.prog 23 #[.pointer (some ⟨g,0,none⟩),.int .i64 n] W fun e W2=>e=.returned (.bool (bs.getD n false))∧Below W.heap.size W W2:=by
 have HP:=Aside0.mk (peer_yes n h1 h2)
 have c2:=t.ban n (by omega)
 have hnz:(n:Int) < 16:=by omega
 generalize bs.getD n false=x at c2 ⊢
 clear t
 go_enter Try.func23,Try.ntmps23
 go_wp2_with (go_at_call 46;refine (HP.out _).mono ?_;rintro e W2 ⟨rfl,⟨m,rfl⟩⟩)
 go_ret
 exact ⟨rfl,pw_below_drewN (Below.refl _ _) m⟩
theorem Tab.Banned_no (t:Tab w W g room tmo ps bs) (n:Int) (h:¬ (1≤n∧n≤15)) :
  Calls Try.prog 23 #[.pointer (some ⟨g,0,none⟩),.int .i64 n] W fun e W2=>e=.returned (.bool false)∧Below W.heap.size W W2:=by
 have HP:=Aside0.mk (peer_no n h)
 clear t h
 go_enter Try.func23,Try.ntmps23
 go_wp2_with (go_at_call 46;refine (HP.out _).mono ?_;rintro e W2 ⟨rfl,⟨m,rfl⟩⟩)
 go_ret
 exact ⟨rfl,pw_below_drewN (Below.refl _ _) m⟩
theorem Tab.pcells (t:Tab w W g room tmo ps bs) {n b:Nat} {p:Pr} (h:ps[n]?=some (some (b,p))) :
  W.cell? ⟨b,0,none⟩=some (.int .i64 p.f0)∧W.cell? ⟨b,1,none⟩=some (.int .i64 p.f1.f0)∧W.cell? ⟨b,2,none⟩=some (.int .i64 p.f1.f1)∧W.cell? ⟨b,3,none⟩=some (.string p.f2)∧W.cell? ⟨b,4,none⟩=some (.bool p.f3)∧W.cell? ⟨b,5,none⟩=some (.bool p.f4)∧W.cell? ⟨b,6,none⟩=some (.bool p.f5)∧W.cell? ⟨b,7,none⟩=some (.int .i64 p.f6)∧W.cell? ⟨b,8,none⟩=some (.int .i64 p.f7)∧W.cell? ⟨b,9,none⟩=some (.int .i64 p.f8) :=
 ⟨t.pcell h 0,t.pcell h 1,t.pcell h 2,t.pcell h 3,t.pcell h 4,t.pcell h 5,t.pcell h 6,t.pcell h 7,t.pcell h 8,t.pcell h 9⟩
theorem info33z:(Try.prog.info? 33).map (·.size)=some 10:=by kernel_rfl
theorem peer_one (p:Pr):(peerC p).toArray.all (·.oneCell')=true:=by simp [peerC,Value.oneCell']
theorem Tab.Get_yes (t:Tab w W g room tmo ps bs) (n:Nat) (h1:1≤n) (h2:n≤15) {b:Nat} {p:Pr} (hp:ps[n]?=some (some (b,p))) :
  Calls Try.prog 17 #[.pointer (some ⟨g,0,none⟩),.int .i64 n] W fun e W2=>e=.returned (.tuple #[.agg (peerC p).toArray,.bool true])∧Below W.heap.size W W2:=by
 have hbel:Below W.heap.size W (W.alloc (.cells (peerC z33).toArray 33)):=below_alloc (Below.refl W.heap.size W) _
 have hof:=(t.below hbel).of_yes n h1 h2
 have hgd:ps.getD n none=some (b,p):=by rw [List.getD_eq_getElem?_getD,hp];rfl
 rw [hgd] at hof
 have HOF:=Aside0.mk hof
 have hb:=(t.node n b p hp).1
 obtain ⟨c0,c1,c2,c3,c4,c5,c6,c7,c8,c9⟩:=t.pcells hp
 have hlt:b < W.heap.size:=blk_lt hb
 have hne:¬ b=W.heap.size:=Nat.ne_of_lt hlt
 have hne2:¬ W.heap.size=b:=fun e=>hne e.symm
 clear t hp hof hgd hb hbel
 go_enter Try.func17,Try.ntmps17
 go_wp2_with fail
 refine HOF.out.mono ?_
 rintro e W2 ⟨rfl,⟨m,rfl⟩⟩
 simp only [ptrOf]
 go_wp2_with (refine wpList_store_row rfl 33 (.tmp 4) (.tmp 15) rfl W.heap.size (peerC p).toArray rfl rfl 33 _ (blk_drewN (heap_alloc_new W _) m) info33z rfl (peer_one p) ?_)
 refine bodyPost_ret (v:=.tuple #[.agg (peerC p).toArray,.bool true]) (results_list (rs:=[.cell 4 33,.tmp 5]) rfl (by simp) (.cell W.heap.size 33 _ (0,0) _ rfl (setRow_heap _ _ _ _ _ _ (blk_drewN (heap_alloc_new W _) m)) Try.underlying33 rfl info33z (.tmp .nil))) rfl ?_
 exact ⟨rfl,below_setRow (pw_below_drewN (below_alloc (Below.refl _ _) _) m) (Nat.le_refl _) _⟩
theorem Tab.Get_none (t:Tab w W g room tmo ps bs) (n:Int) (h:¬ (1≤n∧n≤15)∨ps.getD n.toNat none=none) :
  Calls Try.prog 17 #[.pointer (some ⟨g,0,none⟩),.int .i64 n] W fun e W2=>e=.returned (.tuple #[.agg (peerC z33).toArray,.bool false])∧Below W.heap.size W W2:=by
 have hbel:Below W.heap.size W (W.alloc (.cells (peerC z33).toArray 33)):=below_alloc (Below.refl W.heap.size W) _
 have HOF:=Aside0.mk ((t.below hbel).of_none n h)
 clear t h hbel
 go_enter Try.func17,Try.ntmps17
 go_wp2_with fail
 refine HOF.out.mono ?_
 rintro e W2 ⟨rfl,⟨m,rfl⟩⟩
 go_wp2_with (refine wpList_store_row rfl 33 (.tmp 4) _ rfl W.heap.size (peerC z33).toArray rfl rfl 33 _ (blk_drewN (heap_alloc_new W _) m) info33z rfl (peer_one _) ?_)
 refine bodyPost_ret (v:=.tuple #[.agg (peerC z33).toArray,.bool false]) (results_list (rs:=[.cell 4 33,.tmp 5]) rfl (by simp) (.cell W.heap.size 33 _ (0,0) _ rfl (setRow_heap _ _ _ _ _ _ (blk_drewN (heap_alloc_new W _) m)) Try.underlying33 rfl info33z (.tmp .nil))) rfl ?_
 exact ⟨rfl,below_setRow (pw_below_drewN (below_alloc (Below.refl _ _) _) m) (Nat.le_refl _) _⟩
end
end Go.Proofs.Ytpejjpecdkbleaa.Print
/-! #### MaPeers5 -/
/- peers: List, Len, Roll. -/
namespace Go.Proofs.Ytpejjpecdkbleaa.Print
open Go.RowKit Go.Proofs.YtpejjpecdkbleaaW.PrintWords Go.Proofs.YtpejjpecdkbleaaW.PrintLast Go.Proofs.YtpejjpecdkbleaaW.PrintMore
set_option linter.unusedVariables false
set_option linter.unusedSimpArgs false
theorem index16' (v0 v1 v2 v3 v4 v5 v6 v7 v8 v9 v10 v11 v12 v13 v14 v15:Value) (t:Nat) (ht:t < 16) (W:World):(Instr.index 83 (.agg #[v0,v1,v2,v3,v4,v5,v6,v7,v8,v9,v10,v11,v12,v13,v14,v15]) (.int .i64 (t:Int))).run Try.prog W=.ok ([v0,v1,v2,v3,v4,v5,v6,v7,v8,v9,v10,v11,v12,v13,v14,v15].getD t undef) W:=by
 rcases (by omega:t=0∨t=1∨t=2∨t=3∨t=4∨t=5∨t=6∨t=7∨t=8∨t=9∨t=10∨t=11∨t=12∨t=13∨t=14∨t=15) with rfl|rfl|rfl|rfl|rfl|rfl|rfl|rfl|rfl|rfl|rfl|rfl|rfl|rfl|rfl|rfl <;> kernel_rfl
theorem index16 (cs:List Value) (h:cs.length=16) (t:Nat) (ht:t < 16) (v:Value) (hv:cs[t]?=some v) (W:World):(Instr.index 83 (.agg cs.toArray) (.int .i64 (t:Int))).run Try.prog W=.ok v W:=by
 match cs,h with
 | [v0,v1,v2,v3,v4,v5,v6,v7,v8,v9,v10,v11,v12,v13,v14,v15],_ =>
  have h2:=index16' v0 v1 v2 v3 v4 v5 v6 v7 v8 v9 v10 v11 v12 v13 v14 v15 t ht W
  rw [List.getD_eq_getElem?_getD,hv] at h2
  exact h2
theorem info83:(Try.prog.info? 83).map (·.size)=some 16:=by kernel_rfl
theorem infoP:(Try.prog.info? 33).map (fun i=>(i.zero,i.size,i.bytes))=some (some (.agg (peerC z33).toArray),10,72):=by kernel_rfl
/-- Who is there. -/
def there (ps:Slots):List Pr:=ps.filterMap fun x=>x.map (·.2)
theorem there_some {ps:Slots} {i b:Nat} {p:Pr} (h:ps[i]?=some (some (b,p))):there (ps.take (i+1))=there (ps.take i) ++ [p]:=by
 have hi:i < ps.length:=(List.getElem?_eq_some_iff.1 h).1
 rw [List.take_succ_eq_append_getElem hi,(List.getElem?_eq_some_iff.1 h).2]
 simp [there]
theorem there_none {ps:Slots} {i:Nat} (h:ps[i]?=some none):there (ps.take (i+1))=there (ps.take i):=by
 have hi:i < ps.length:=(List.getElem?_eq_some_iff.1 h).1
 rw [List.take_succ_eq_append_getElem hi,(List.getElem?_eq_some_iff.1 h).2]
 simp [there]
theorem there_len (ps:Slots):(there ps).length≤ps.length:=by
 unfold there
 exact List.length_filterMap_le _ _
section
variable {w W W1 W2:World} {g:Nat} {room tmo:Int} {ps ps':Slots} {bs bs':List Bool}
theorem Tab.row (t:Tab w W g room tmo ps bs):W.rangeAt g 2 (ps.map ptrOf):=fun j v hv=>by
 have hl:=t.lp
 rw [blk_cell t.blk,show 2+j=j+2 by omega]
 have hj:j < (ps.map ptrOf).length:=(List.getElem?_eq_some_iff.1 hv).1
 simp only [tabC,List.getElem?_toArray,List.getElem?_cons_succ]
 rw [List.getElem?_append_left hj]
 exact hv
theorem Tab.sixteen (t:Tab w W g room tmo ps bs):(ps.map ptrOf).length=16:=by rw [List.length_map];exact t.lp
set_option maxHeartbeats 1600000 in
set_option maxRecDepth 100000 in
theorem Tab.List_ (t:Tab w W g room tmo ps bs):Calls Try.prog 21 #[.pointer (some ⟨g,0,none⟩)] W fun e W2=>∃ v,e=.returned v∧Kd.R k33 33 W2 W.heap.size (fun _=>True) v (there ps)∧Below W.heap.size W W2:=by
 have HT:=Aside0.mk t
 clear t
 go_enter Try.func21,Try.ntmps21
 go_wp2_with (refine wpList_load_mid rfl 83 (.tmp 10) rfl g 2 rfl (ps.map ptrOf) _ HT.out.row Try.underlying83 rfl (info83.trans (by rw [HT.out.sixteen])) ?_)
 go_loopg [3,12] 16 (fun gg v3 v12 wr=>∃ (i:Nat),v12=.int .i64 i∧Aside0 (i+gg=16)∧Aside0 (Kd.R k33 33 wr W.heap.size (fun _=>True) v3 (there (ps.take i)))∧Aside0 (Below W.heap.size W wr))
 case atStart=>exact ⟨0,rfl,⟨rfl⟩,⟨by rw [List.take_zero];exact Kd.R_nil _ _ _ _ _⟩,⟨Below.refl _ _⟩⟩
 case round =>
  obtain ⟨i,rfl,HG,HO,HB⟩:=hrel
  by_cases hlt:(i:Int) < 16
  ·
   obtain ⟨gg,rfl⟩:∃ m,gk=m+1:=⟨gk - 1,by have:=HG.out;omega⟩
   have hi:i < 16:=by omega
   have hil:i < ps.length:=by rw [HT.out.lp];exact hi
   cases hp:ps[i]? with
   | none=>rw [List.getElem?_eq_none_iff] at hp;omega
   | some x =>
    have hx:(ps.map ptrOf)[i]?=some (ptrOf x):=by rw [List.getElem?_map,hp];rfl
    have hix:=index16 (ps.map ptrOf) HT.out.sixteen i hi _ hx
    clear hx hil
    cases x with
    | none =>
     simp only [ptrOf] at hix
     have HP:=Aside0.mk hp
     clear hp
     go_wp2_with fail
     go_roundg gg
     case measure=>omega
     case rel=>exact ⟨i+1,rfl,⟨by have:=HG.out;omega⟩,⟨by rw [there_none HP.out];exact HO.out⟩,HB⟩
    | some bp =>
     obtain ⟨b,p⟩:=bp
     simp only [ptrOf] at hix
     have HP:=Aside0.mk hp
     clear hp
     obtain ⟨c0,c1,c2,c3,c4,c5,c6,c7,c8,c9⟩:=(HT.out.below HB.out).pcells HP.out
     go_wp2_with (first
      | ((with_reducible refine gate_builtin (b:=.append) (xs:=#[.tmp 17,.tmp 21]) rfl ?_);at_builtin;refine Kd.R_append k33 (w0:=W) W.heap.size rfl (.tmp 17) (.tmp 21) 48 33 (.agg (peerC z33).toArray) 72 rfl Try.underlying48 infoP rfl (by decide) (by omega) _ (there (ps.take i)) p (peerC p) (fun _=>True) (fun _=>False) rfl rfl ?aP (fun _ hk=>hk.elim) ?aF ?aO ?aB ?aS ?aL ?_;(case aP=>exact k33_mkM _ _ _ p);(case aB=>exact (by repeat (first|(with_reducible first|exact HB.out|apply below_alloc|apply pw_below_drewN|apply below_drew1)|exact HB.out)));(case aF=>exact fun _ _=>trivial);(case aO=>exact (by (with_reducible repeat (first|apply Kd.R_alloc|apply Kd.R_drewN|apply Kd.R_drew));exact HO.out));(case aS=>exact (below_size (by repeat (first|(with_reducible first|exact HB.out|apply below_alloc|apply pw_below_drewN|apply below_drew1)|exact HB.out))));(case aL=>have h1:=there_len (ps.take i);have h2:=HT.out.lp;rw [List.length_take] at h1;omega);intro v13 w7 ho hb hg hat;have HO7:=Aside0.mk ho;have HB7:=Aside0.mk hb;clear ho hb hg hat HO HB))
     go_roundg gg
     case measure=>omega
     case rel=>exact ⟨i+1,rfl,⟨by have:=HG.out;omega⟩,⟨by rw [there_some HP.out];exact HO7.out⟩,HB7⟩
  ·
   obtain rfl:i=16:=by have:=HG.out;omega
   obtain ⟨A3,n3,hv⟩:=Kd.R_slice HO.out
   subst hv
   go_wp2_with fail
   go_ret
   refine ⟨_,rfl,?_,HB.out⟩
   rw [show there ps=there (ps.take 16) by rw [List.take_of_length_le (Nat.le_of_eq HT.out.lp)]]
   exact HO.out
theorem Tab.Len_ (t:Tab w W g room tmo ps bs):Calls Try.prog 22 #[.pointer (some ⟨g,0,none⟩)] W fun e W2=>e=.returned (.int .i64 ((there ps).length:Nat))∧Below W.heap.size W W2:=by
 have HL:=Aside0.mk t.List_
 clear t
 go_enter Try.func22,Try.ntmps22
 go_wp2_with fail
 refine HL.out.mono ?_
 rintro e W2 ⟨v,rfl,ho,hb⟩
 obtain ⟨A3,n3,hv⟩:=Kd.R_slice ho
 subst hv
 have HB:=Aside0.mk hb
 clear hb ho
 go_wp2_with fail
 go_ret
 exact ⟨rfl,HB.out⟩
end
end Go.Proofs.Ytpejjpecdkbleaa.Print
