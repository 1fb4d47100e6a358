/- The proof of the statement PrngNil of the seat, part 7 of 7: the functions that it reaches, as plain functions, with the walks that show it, and what they come to; the last part ends in the row. No condition beyond the statement's own. -/
import Derived.Test.YtelcaepenfjloaaRows
import Derived.WalkKit
import Derived.ProofKit
import Derived.OpenShut
import Derived.ShutString
import Derived.ChangeOld
import Derived.Below
import Derived.SizedLaws
import Derived.Carry
import Derived.Test.YtelcaepenfjloaaBPrngNil1
import Derived.Test.YtelcaepenfjloaaBPrngNil2
import Derived.Test.YtelcaepenfjloaaBPrngNil3
import Derived.Test.YtelcaepenfjloaaBPrngNil4
import Derived.Test.YtelcaepenfjloaaBPrngNil5
import Derived.Test.YtelcaepenfjloaaBPrngNil6
/-! #### PurePrng2 -/
/- prng in plain words: what is chosen, drawn below a number, picked. -/
namespace Go.Proofs.Ytelcaepenfjloaa.Pure
open Go.RowKit Go.Proofs.Ytelcaepenfjloaa.Print Go.Proofs.YtelcaepenfjloaaW.PrintWords Go.Proofs.YtelcaepenfjloaaW.PrintLast Go.Proofs.YtelcaepenfjloaaW.PrintMore
set_option linter.unusedVariables false
set_option linter.unusedSimpArgs false
def bndN (n:Int):Int:=4294967296 - 4294967296 % n
theorem bndN_pos (n:Int) (h:1≤n) (h2:n≤2147483647):0 < bndN n∧bndN n≤4294967296:=by
 have a:=Int.emod_nonneg 4294967296 (show n≠0 by omega)
 have b:=Int.emod_lt_of_pos 4294967296 (show 0 < n by omega)
 unfold bndN
 omega
theorem bound_f (n:Int) (h:1≤n) (h2:n≤2147483647):prng_bound.f n=some (bndN n):=by
 have:=bndN_pos n h h2
 unfold prng_bound.f
 rw [if_neg (by omega)]
 show some (wrap64 (bndN n))=_
 rw [wrap_of (by omega) (by omega)]
theorem may_f (n:Int):prng_may.f n=some (decide (1≤n∧n≤2147483647)):=by
 unfold prng_may.f
 by_cases h:1≤n
 ·
  rw [if_pos h]
  simp [h]
 ·
  rw [if_neg (by omega)]
  simp [h]
def chG (n m:Int):List Int→Int→Int→Int×Int
 | [],last,used=>(Int.tmod last n,used)
 | w :: t,_,used=>if w < m then (Int.tmod w n,used+1) else chG n m t w (used+1)
theorem chG_range (n m:Int) (hn:1≤n):∀ (l:List Int) (last used:Int),(∀ x∈l,0≤x)→0≤last→0≤(chG n m l last used).1∧(chG n m l last used).1 < n∧used≤(chG n m l last used).2∧(chG n m l last used).2≤used+l.length
 | [],last,used,h,h0=>⟨Int.tmod_nonneg n h0,Int.tmod_lt_of_pos last (by omega),by simp [chG],by simp [chG]⟩
 | w :: t,last,used,h,h0=>by
  have hw:=h w (by simp)
  unfold chG
  split
  ·
   exact ⟨Int.tmod_nonneg n hw,Int.tmod_lt_of_pos w (by omega),by simp;omega,by simp;omega⟩
  ·
   have:=chG_range n m hn t w (used+1) (fun x hx=>h x (by simp [hx])) hw
   rw [List.length_cons]
   refine ⟨this.1,this.2.1,by omega,by omega⟩
def chooseP (l:List Int) (n:Int):Int×Int:=if 1≤n∧n≤2147483647∧l≠[] then chG n (bndN n) (l.take 8) 0 0 else (0,0)
def U32 (l:List Int):Prop:=∀ x∈l,0≤x∧x < 4294967296
theorem choose_l0 (n:Int) (hn:1≤n) (hn2:n≤2147483647) (y:List Int) (hy:U32 y) (h8:y.length≤8) (h1:0 < y.length):∀ (d i:Nat) (last:Int),i+d=y.length→(0 < i→last=y.getD (i - 1) 0) →
  Ev (fun k=>prng_Choose.l0 k y n y (y.length:Int) (i:Int)) (chG n (bndN n) (y.drop i) last i)
 | 0,i,last,h,hlast=>by
  have hi:i=y.length:=by omega
  have hl:=hlast (by omega)
  refine Ev.succ ?_
  simp only [prng_Choose.l0]
  rw [show wrap64 ((y.length:Int) - 1)=((y.length - 1:Nat):Int) by unfold wrap64;omega]
  refine Ev.neg (by omega) (Ev.pos (by omega) (Ev.pos (by omega) (Ev.neg (by omega) (Ev.some_ ?_))))
  rw [List.drop_eq_nil_of_le (by omega),chG,rd_nat,hl,hi]
  have hv:=hy (y.getD (y.length - 1) 0) (by rw [List.getD_eq_getElem?_getD,List.getElem?_eq_getElem (by omega)];exact List.getElem_mem _)
  rw [wrap_of (by omega) (by omega)]
 | d+1,i,last,h,hlast=>by
  have hi:i < y.length:=by omega
  refine Ev.succ ?_
  simp only [prng_Choose.l0]
  have hv:=hy y[i] (List.getElem_mem _)
  rw [bound_f n hn hn2,rd_lt y i hi,wrap_of (x:=y[i]) (by omega) (by omega),wrap_succ i (by omega),List.drop_eq_getElem_cons hi]
  refine Ev.pos (by omega) (Ev.pos (by omega) (Ev.pos (by omega) (Ev.some_bind ?_)))
  unfold chG
  by_cases c:y[i] < bndN n
  ·
   rw [if_pos c]
   exact Ev.pos c (Ev.neg (by omega) (Ev.some_ rfl))
  ·
   rw [if_neg c]
   refine Ev.neg c ?_
   exact choose_l0 n hn hn2 y hy h8 h1 d (i+1) y[i] (by omega) (fun _=>by simp [List.getD_eq_getElem?_getD,hi])
theorem U32.take {l:List Int} (h:U32 l) (k:Nat):U32 (l.take k):=fun x hx=>h x (List.mem_of_mem_take hx)
theorem choose_ev (l:List Int) (n:Int) (hl:U32 l) (hlen:l.length≤9223372036854775807):Ev (fun k=>prng_Choose.f k l n) (chooseP l n):=by
 unfold prng_Choose.f
 refine Ev.call (may_f n) ?_
 unfold chooseP
 by_cases hm:1≤n∧n≤2147483647
 ·
  rw [decide_eq_true hm]
  refine Ev.pos rfl (Ev.succ ?_)
  simp only [prng_Choose.j0]
  by_cases h0:l=[]
  ·
   subst h0
   exact Ev.pos (by simp) (Ev.some_ (by simp))
  ·
   have hpos:0 < l.length:=List.length_pos_iff.2 h0
   have hmn:mn (l.length:Int) 8=(((l.take 8).length:Nat):Int):=by
    unfold mn
    rw [List.length_take]
    split <;> omega
   rw [if_pos ⟨hm.1,hm.2,h0⟩,hmn,Int.toNat_natCast]
   have ht:l.take (l.take 8).length=l.take 8:=by
    rw [List.length_take]
    rcases Nat.lt_or_ge l.length 8 with h|h
    ·
     rw [Nat.min_eq_right (by omega),List.take_of_length_le (by omega),List.take_of_length_le (by omega)]
    ·
     rw [Nat.min_eq_left h]
   rw [ht]
   have h8:(l.take 8).length≤8:=by rw [List.length_take];omega
   have h1:0 < (l.take 8).length:=by rw [List.length_take];omega
   have hle:(l.take 8).length≤l.length:=by rw [List.length_take];omega
   refine Ev.neg (by simp;omega) (Ev.pos (by omega) (Ev.pos (by omega) ?_))
   have:=choose_l0 n hm.1 hm.2 (l.take 8) (hl.take 8) h8 h1 (l.take 8).length 0 0 (by omega) (fun h=>absurd h (by omega))
   rw [List.drop_zero] at this
   exact this
 ·
  rw [decide_eq_false hm,if_neg (fun h=>hm ⟨h.1,h.2.1⟩)]
  refine Ev.neg (by simp) (Ev.succ ?_)
  simp only [prng_Choose.j0]
  exact Ev.pos (by simp) (Ev.some_ rfl)
/-! ### Below -/
def wsL (seed:ByteArray):Int→Nat→List Int
 | _,0=>[]
 | u,c+1=>wordI seed u :: wsL seed (u+1) c
theorem wsL_length (seed:ByteArray):∀ (c:Nat) (u:Int),(wsL seed u c).length=c
 | 0,_=>rfl
 | c+1,u=>by rw [wsL,List.length_cons,wsL_length seed c]
theorem wsL_U32 (seed:ByteArray) (hs:seed.size≤64):∀ (c:Nat) (u:Int),0≤u→u+c≤2000000000→U32 (wsL seed u c)
 | 0,_,_,_=>fun x hx=>absurd hx (by simp [wsL])
 | c+1,u,h0,h1=>by
  intro x hx
  rw [wsL,List.mem_cons] at hx
  rcases hx with rfl|hx
  ·
   exact wordI_range seed u ⟨h0,by omega,hs⟩
  ·
   exact wsL_U32 seed hs c (u+1) (by omega) (by omega) x hx
def belowP (seed:ByteArray) (u n:Int):Int×Int:=if 1≤n∧n≤2147483647 then chG n (bndN n) (wsL seed u 8) 0 0 else (0,0)
theorem belowP_range (seed:ByteArray) (u n:Int) (hs:seed.size≤64) (h0:0≤u) (h1:u≤1000000000):0≤(belowP seed u n).1∧(1≤n→n≤2147483647→(belowP seed u n).1 < n)∧0≤(belowP seed u n).2∧(belowP seed u n).2≤8:=by
 unfold belowP
 split
 ·
  rename_i h
  have hU:=wsL_U32 seed hs 8 u h0 (by omega)
  have:=chG_range n (bndN n) h.1 (wsL seed u 8) 0 0 (fun x hx=>(hU x hx).1) (by omega)
  rw [wsL_length] at this
  exact ⟨this.1,fun _ _=>this.2.1,this.2.2.1,by omega⟩
 ·
  rename_i h
  exact ⟨by simp,fun h1 h2=>absurd ⟨h1,h2⟩ h,by simp,by simp⟩
theorem below_l0 (seed:ByteArray) (u0 n:Int) (hn:1≤n) (hn2:n≤2147483647) (hu:u0+8≤1000000000):∀ (c i:Nat) (last:Int) (b:ByteArray),i+c=8→GenI seed (u0+i) b →
  ∃ b',GenI seed (u0+(chG n (bndN n) (wsL seed (u0+i) c) last i).2) b'∧Ev (fun k=>prng_Gen_Below.l0 k n last (i:Int) seed (u0+i) b) ((chG n (bndN n) (wsL seed (u0+i) c) last i).1,seed,u0+(chG n (bndN n) (wsL seed (u0+i) c) last i).2,b')
 | 0,i,last,b,h,hg=>by
  refine ⟨b,hg,Ev.succ ?_⟩
  simp only [prng_Gen_Below.l0]
  exact Ev.neg (by omega) (Ev.neg (by omega) (Ev.some_ rfl))
 | c+1,i,last,b,h,hg=>by
  have hr:=wordI_range seed (u0+i) ⟨hg.2.1,by omega,hg.1⟩
  have hnx:=hg.next
  rw [show u0+(i:Int)+1=u0+((i+1:Nat):Int) by omega] at hnx
  have hw:=word_ev seed (u0+i) b hg (by omega)
  rw [show u0+(i:Int)+1=u0+((i+1:Nat):Int) by omega] at hw
  have hb:=bound_f n hn hn2
  rw [wsL,show u0+(i:Int)+1=u0+((i+1:Nat):Int) by omega]
  unfold chG
  by_cases cc:wordI seed (u0+i) < bndN n
  ·
   rw [if_pos cc]
   refine ⟨_,hnx,Ev.succ ?_⟩
   simp only [prng_Gen_Below.l0]
   refine Ev.pos (by omega) (Ev.bind hw (Ev.call hb ?_))
   simp only []
   rw [wrap_of (x:=wordI seed (u0+i)) (by omega) (by omega)]
   exact Ev.pos cc (Ev.neg (by omega) (Ev.some_ rfl))
  ·
   rw [if_neg cc]
   obtain ⟨b',g',e'⟩:=below_l0 seed u0 n hn hn2 hu c (i+1) (wordI seed (u0+i)) _ (by omega) hnx
   refine ⟨b',g',Ev.succ ?_⟩
   simp only [prng_Gen_Below.l0]
   refine Ev.pos (by omega) (Ev.bind hw (Ev.call hb ?_))
   simp only []
   rw [wrap_of (x:=wordI seed (u0+i)) (by omega) (by omega),wrap_succ i (by omega)]
   exact Ev.neg cc e'
theorem below_ev (seed:ByteArray) (u n:Int) (b:ByteArray) (hg:GenI seed u b) (hu:u+8≤1000000000) :
  ∃ b',GenI seed (u+(belowP seed u n).2) b'∧Ev (fun k=>prng_Gen_Below.f k seed u b n) ((belowP seed u n).1,seed,u+(belowP seed u n).2,b'):=by
 unfold prng_Gen_Below.f belowP
 by_cases hm:1≤n∧n≤2147483647
 ·
  rw [if_pos hm]
  have:=below_l0 seed u n hm.1 hm.2 hu 8 0 0 b rfl (by simpa using hg)
  simp only [show u+((0:Nat):Int)=u by omega] at this
  obtain ⟨b',g',e'⟩:=this
  refine ⟨b',g',Ev.call (may_f n) ?_⟩
  rw [decide_eq_true hm]
  exact Ev.pos rfl e'
 ·
  rw [if_neg hm]
  refine ⟨b,by simpa using hg,Ev.call (may_f n) ?_⟩
  rw [decide_eq_false hm]
  exact Ev.neg (by simp) (Ev.some_ (by simp))
end Go.Proofs.Ytelcaepenfjloaa.Pure
/-! #### PurePrng3 -/
/- prng in plain words: picks; the page's examples. -/
namespace Go.Proofs.Ytelcaepenfjloaa.Pure
open Go.RowKit Go.Proofs.Ytelcaepenfjloaa.Print Go.Proofs.YtelcaepenfjloaaW.PrintWords Go.Proofs.YtelcaepenfjloaaW.PrintLast Go.Proofs.YtelcaepenfjloaaW.PrintMore
set_option linter.unusedVariables false
set_option linter.unusedSimpArgs false
def swapL (L:List Int) (i j:Nat):List Int:=(L.set i (L.getD j 0)).set j (L.getD i 0)
theorem swapL_length (L:List Int) (i j:Nat):(swapL L i j).length=L.length:=by simp [swapL]
def pickG (seed:ByteArray) (n:Nat):Nat→Nat→List Int→Int→List Int×Int
 | 0,_,L,u=>(L,u)
 | c+1,i,L,u=>pickG seed n c (i+1) (swapL L i ((i:Int)+(belowP seed u ((n:Int) - i)).1).toNat) (u+(belowP seed u ((n:Int) - i)).2)
def rangeI (n:Nat):List Int:=(List.range n).map (fun i:Nat=>(i:Int))
theorem rangeI_length (n:Nat):(rangeI n).length=n:=by simp [rangeI]
theorem rangeI_succ (n:Nat):rangeI (n+1)=rangeI n ++ [(n:Int)]:=by simp [rangeI,List.range_succ]
def pickP (seed:ByteArray) (u n k:Int):List Int×Int :=
 if 0≤n∧n≤4096∧0≤k∧k≤n then ((pickG seed n.toNat k.toNat 0 (rangeI n.toNat) u).1.take k.toNat,(pickG seed n.toNat k.toNat 0 (rangeI n.toNat) u).2) else ([],u)
theorem pick_l1 (seed:ByteArray) (n kk:Nat) (hn:n≤4096) (hk:kk≤n):∀ (c i:Nat) (L:List Int) (u:Int) (b:ByteArray),i+c=kk→L.length=n→GenI seed u b→u+8 * c+8≤1000000000 →
  ∃ b',GenI seed (pickG seed n c i L u).2 b'∧Ev (fun k=>prng_Gen_Pick.l1 k (n:Int) (kk:Int) L (kk:Int) (i:Int) seed u b) ((pickG seed n c i L u).1.take kk,seed,(pickG seed n c i L u).2,b')
 | 0,i,L,u,b,h,hL,hg,hu=>by
  refine ⟨b,hg,Ev.succ ?_⟩
  simp only [prng_Gen_Pick.l1]
  refine Ev.neg (by omega) (Ev.pos (by omega) (Ev.pos (by omega) (Ev.some_ ?_)))
  rw [Int.toNat_natCast]
  rfl
 | c+1,i,L,u,b,h,hL,hg,hu=>by
  obtain ⟨b1,g1,e1⟩:=below_ev seed u ((n:Int) - i) b hg (by omega)
  have hb:=belowP_range seed u ((n:Int) - i) hg.1 hg.2.1 (by omega)
  have hb1:=hb.2.1 (by omega) (by omega)
  rw [pickG]
  generalize hd:belowP seed u ((n:Int) - i)=d at g1 e1 hb hb1 ⊢
  obtain ⟨b',g',e'⟩:=pick_l1 seed n kk hn hk c (i+1) (swapL L i ((i:Int)+d.1).toNat) (u+d.2) b1 (by omega) (by rw [swapL_length];exact hL) g1 (by omega)
  refine ⟨b',g',Ev.succ ?_⟩
  simp only [prng_Gen_Pick.l1]
  rw [wrap_of (x:=(n:Int) - i) (by omega) (by omega)]
  refine Ev.pos (by omega) (Ev.bind e1 ?_)
  simp only []
  rw [wrap_of (x:=(i:Int)+d.1) (by omega) (by omega),wrap_succ i (by omega)]
  refine Ev.pos (by omega) (Ev.pos (by omega) (Ev.pos (by omega) (Ev.pos (by omega) ?_)))
  rw [Int.toNat_natCast,rd_nat,show rd L ((i:Int)+d.1)=L.getD ((i:Int)+d.1).toNat 0 from rfl]
  exact e'
theorem pick_l0 (seed:ByteArray) (n kk:Nat) (hn:n≤4096) (u:Int) (b:ByteArray) (r:List Int×ByteArray×Int×ByteArray) (hr:Ev (fun k=>prng_Gen_Pick.l1 k (n:Int) (kk:Int) (rangeI n) (kk:Int) 0 seed u b) r) :
  ∀ (d i:Nat),i+d=n→Ev (fun k=>prng_Gen_Pick.l0 k (n:Int) (kk:Int) (rangeI i ++ List.replicate d 0) (n:Int) (i:Int) seed u b) r
 | 0,i,h=>by
  refine Ev.succ ?_
  simp only [prng_Gen_Pick.l0]
  rw [show List.replicate 0 (0:Int)=[] from rfl,List.append_nil,show i=n by omega]
  exact Ev.neg (by omega) hr
 | d+1,i,h=>by
  refine Ev.succ ?_
  simp only [prng_Gen_Pick.l0]
  have hl:(rangeI i ++ List.replicate (d+1) (0:Int)).length=n:=by rw [List.length_append,rangeI_length,List.length_replicate];omega
  have hset:=set_pad (rangeI i) d (i:Int)
  rw [rangeI_length,← rangeI_succ] at hset
  rw [hl,Int.toNat_natCast,hset,wrap_succ i (by omega)]
  exact Ev.pos (by omega) (Ev.pos (by omega) (Ev.pos (by omega) (pick_l0 seed n kk hn u b r hr d (i+1) (by omega))))
theorem pick_ev (seed:ByteArray) (u n k:Int) (b:ByteArray) (hg:GenI seed u b) (hu:u≤900000000) :
  ∃ b',GenI seed (pickP seed u n k).2 b'∧Ev (fun K=>prng_Gen_Pick.f K seed u b n k) ((pickP seed u n k).1,seed,(pickP seed u n k).2,b'):=by
 unfold prng_Gen_Pick.f pickP
 have bad:Ev (fun K=>prng_Gen_Pick.j0 K n k true seed u b) ([],seed,u,b):=by
  refine Ev.succ ?_
  simp only [prng_Gen_Pick.j0]
  exact Ev.pos (by simp) (Ev.some_ rfl)
 by_cases h:0≤n∧n≤4096∧0≤k∧k≤n
 ·
  rw [if_pos h]
  obtain ⟨n,rfl⟩:=Int.eq_ofNat_of_zero_le h.1
  obtain ⟨k,rfl⟩:=Int.eq_ofNat_of_zero_le h.2.2.1
  rw [Int.toNat_natCast,Int.toNat_natCast]
  obtain ⟨b',g',e'⟩:=pick_l1 seed n k (by omega) (by omega) k 0 (rangeI n) u b (by omega) (rangeI_length n) hg (by omega)
  refine ⟨b',g',?_⟩
  refine Ev.neg (by omega) (Ev.neg (by omega) (Ev.neg (by omega) ?_))
  rw [decide_eq_false (by omega)]
  refine Ev.succ ?_
  simp only [prng_Gen_Pick.j0]
  rw [Int.toNat_natCast]
  refine Ev.neg (by simp) (Ev.pos (by omega) (Ev.pos (by omega) ?_))
  exact pick_l0 seed n k (by omega) u b _ e' n 0 (by omega)
 ·
  rw [if_neg h]
  refine ⟨b,hg,?_⟩
  by_cases h1:n < 0
  ·
   exact Ev.pos h1 bad
  refine Ev.neg h1 ?_
  by_cases h2:n > 4096
  ·
   exact Ev.pos h2 bad
  refine Ev.neg h2 ?_
  by_cases h3:k < 0
  ·
   exact Ev.pos h3 bad
  refine Ev.neg h3 ?_
  rw [decide_eq_true (by omega)]
  exact bad
theorem new_f (s:ByteArray) (h:s.size≤64):prng_New.f s=some (s,0,⟨#[]⟩):=by
 unfold prng_New.f
 exact if_neg (by omega)
theorem x_size:(⟨#[120]⟩:ByteArray).size=1:=rfl
theorem awake04:Ev (fun k=>mosaiclaw04_awake.f k) true:=by
 unfold mosaiclaw04_awake.f
 have hc:chooseP [4294967295,7] 10=(7,2):=by decide +kernel
 have h1:=choose_ev [4294967295,7] 10 (fun x hx=>by simp at hx;rcases hx with rfl|rfl <;> omega) (by simp)
 rw [hc] at h1
 refine Ev.bind h1 (Ev.call (new_f _ (by rw [x_size];omega)) ?_)
 obtain ⟨b',g',e'⟩:=pick_ev ⟨#[120]⟩ 0 1 1 ⟨#[]⟩ (GenI.start _ (by rw [x_size];omega) _) (by omega)
 refine Ev.bind e' ?_
 have hp:(pickP ⟨#[120]⟩ 0 1 1).1=[0]:=by
  have hb:=belowP_range ⟨#[120]⟩ 0 1 (by rw [x_size];omega) (by omega) (by omega)
  have hb1:=hb.2.1 (by omega) (by omega)
  have hz:(belowP ⟨#[120]⟩ 0 1).1=0:=by omega
  unfold pickP
  rw [if_pos (by omega)]
  have e1:(1:Int).toNat=1:=rfl
  have e2:((1:Nat):Int) - ((0:Nat):Int)=1:=rfl
  simp only [e1]
  rw [pickG,pickG,e2,hz]
  decide
 simp only []
 rw [hp]
 have hsz:=blockB_size ⟨#[120]⟩ 0 ⟨by omega,by omega,by rw [x_size];omega⟩
 refine Ev.pos (by simp) (Ev.pos (by simp) (Ev.pos (by simp) (Ev.pos (by simp) (Ev.pos (by decide) (Ev.bind (block_ev _ _ (by rw [x_size];omega)) (Ev.some_ ?_))))))
 rw [hsz]
 rfl
end Go.Proofs.Ytelcaepenfjloaa.Pure
/-! #### PurePrngNil -/
/- The pure statement of PrngNil. -/
namespace Go.Proofs.Ytelcaepenfjloaa.Pure
open Go.RowKit Go.Proofs.Ytelcaepenfjloaa.Print Go.Proofs.YtelcaepenfjloaaW.PrintWords Go.Proofs.YtelcaepenfjloaaW.PrintLast Go.Proofs.YtelcaepenfjloaaW.PrintMore
set_option linter.unusedVariables false
theorem PrngNil:mosaiclaw04_PrngNil.Pure:=by
 intro n k hn hk
 obtain ⟨K,hK⟩:=awake04
 refine ⟨K,?_⟩
 unfold mosaiclaw04_PrngNil.f
 exact if_pos (hK K (Nat.le_refl _))
end Go.Proofs.Ytelcaepenfjloaa.Pure
/-! #### LawPrngNil -/
/- The given statement PrngNilSaid is proved: the law mosaiclaw04_PrngNil returns true for every input, without a panic; out of its pure statement (YtelcaepenfjloaaPurePrngNil) and the walks of the functions that it reaches; no condition beyond the statement's own. -/
namespace Go.Proofs.Ytelcaepenfjloaa.prngNil
open Go.ChangeShapes Go.WideShapes Go.ChangeAt Go.RowKit Go.Proofs.Ytelcaepenfjloaa.Print Go.Proofs.YtelcaepenfjloaaW.PrintWords Go.Proofs.Ytelcaepenfjloaa.Open
open Go.ChangeMaps (open_string shut_string)
set_option linter.unusedVariables false
set_option linter.unusedSimpArgs false
theorem own:ownKnob Try.prog.godebug=none:=by kernel_rfl
set_option maxRecDepth 100000 in
theorem lifted (os:Os) (started:os.Started) (H:Type) (enc:TypeId×Value→H) :
  ReturnsInHanded {} Try.checked os 19 .any (Rows.prngNilSpec.pre6 enc Try.prog Try.f19 Rows.prngNilRow.domain false) (Rows.prngNilSpec.post enc Try.prog Try.f19 false true false false):=by
 refine returnsInHanded_of_change_sized (C:=Try.checked) own started (by kernel_rfl) Try.func19
  (ChangeSpec.witness6 (enc:=enc) (C:=Try.checked) false ⟨#[],#[.int .i64 0,.int .i64 0],[]⟩ 8 (by kernel_rfl) (by kernel_rfl) (by kernel_rfl) (by kernel_rfl)) ?_
 intro W base args ds gs before hval0 hW hcnd hsz0 _
 have hval:∀ (j:Nat) t v,Try.f19.params[j]?=some t→args[j]?=some v→Value.okWide Try.prog W .any base t v:=hval0
 have hW':=hW
 obtain ⟨p,q,hA0,hV,rfl,hfz,hnd⟩:=hW
 have hA:DataW.TrodAll enc Try.prog W 0 (fun _=>true) true Try.f19.params.toList args.toList ds p:=hA0
 rw [Try.params19] at hA hval
 obtain ⟨v0,vs0,d0,ds0,p0,q0,hargs,rfl,rfl,h0,r0⟩:=trodAll_cons hA
 obtain ⟨v1,vs1,d1,ds1,p1,q1,rfl,rfl,rfl,h1,r1⟩:=trodAll_cons r0
 obtain ⟨rfl,rfl,rfl⟩:=trodAll_nil r1
 obtain rfl:args=#[v0,v1]:=by cases args;simp_all
 obtain ⟨rfl,rfl⟩:=trodVars_none hV
 obtain ⟨a0,rfl,rfl,rfl,w0⟩:=open_int Try.underlying3 (hval 0 3 v0 rfl rfl) h0
 obtain ⟨a1,rfl,rfl,rfl,w1⟩:=open_int Try.underlying3 (hval 1 3 v1 rfl rfl) h1
 clear hA0 hval0 hsz0
 obtain ⟨kk,hkk⟩:=Pure.PrngNil (a0) (a1) w0 w1
 refine (mosaiclaw04_PrngNil.calls kk a0 a1 true W  hkk).mono ?_
 rintro e W' ⟨rfl,hd_⟩
 have bel:Below W.heap.size W W':=hd_
 exact ⟨_,rfl,_,_,_,[],_,[],hW',trodAll_mk1 (shut_bool Try.underlying4 _),(trodAll_cons_mk (shut_int Try.underlying3 w0) (trodAll_cons_mk (shut_int Try.underlying3 w1) trodAll_mk0)),rfl,bel.frame _,fun h=>by cases h⟩
theorem facts:joinedFacts Try.pinned.checked.prog 19 Try.f19 Rows.prngNilSpec Rows.prngNilRow=true:=by
 unfold joinedFacts
 simp only [Bool.and_eq_true]
 repeat' apply And.intro
 any_goals (with_reducible exact Fct.mayEnter)
 any_goals ((with_reducible refine Fct.lifts _ ?_);rfl)
 any_goals ((with_reducible refine Fct.make_ _ ?_);rfl)
 all_goals (as_aux_lemma=>kernel_rfl)
theorem over:Rows.prngNilRow.holds Try.pinned (OpenSpec.ofChange Rows.prngNilSpec) :=
 OpenClaim.holds_of_wide 19 Try.f19 rfl rfl rfl rfl rfl rfl rfl ⟨rfl,rfl,rfl,rfl,rfl⟩ rfl rfl rfl rfl rfl (by as_aux_lemma=>kernel_rfl) Try.func19 facts
  (of_decide_eq_true (by as_aux_lemma=>kernel_rfl)) (by unfold Func.isWrapper;first|(rw [if_pos (by decide +kernel)];as_aux_lemma=>kernel_rfl)|(rw [if_neg (by decide +kernel)];exact ⟨rfl,rfl⟩))
  (fun os started H enc _=>lifted os started H enc)
theorem proved:Rows.PrngNilSaid:=over
#print axioms proved
end Go.Proofs.Ytelcaepenfjloaa.prngNil
namespace Go.Proofs.Ytelcaepenfjloaa
/-- The row, under a short name, for the claim. -/
theorem prngNil_holds:Rows.PrngNilSaid:=prngNil.proved
end Go.Proofs.Ytelcaepenfjloaa
