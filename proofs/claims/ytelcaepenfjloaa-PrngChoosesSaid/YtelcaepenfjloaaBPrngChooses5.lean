/- The proof of the statement PrngChooses of the seat, part 5 of 5: the functions that it reaches, as plain functions, with the walks that show it, and what they come to; the last part ends in the row. No condition beyond the statement's own. -/
import Derived.Laws.BitsLemmas
import Derived.Test.YtelcaepenfjloaaRows
import Derived.WalkKit
import Derived.ProofKit
import Derived.OpenShut
import Derived.ShutString
import Derived.ChangeOld
import Derived.Below
import Derived.SizedLaws
import Derived.Carry
import Derived.Test.YtelcaepenfjloaaBPrngChooses1
import Derived.Test.YtelcaepenfjloaaBPrngChooses2
import Derived.Test.YtelcaepenfjloaaBPrngChooses3
import Derived.Test.YtelcaepenfjloaaBPrngChooses4
/-! #### PureSha -/
/- SHA-256 in plain words: the reference's sum is the program's. -/
namespace Go.Proofs.Ytelcaepenfjloaa.Pure
open Go.RowKit Go.Proofs.Ytelcaepenfjloaa.Print Go.Proofs.YtelcaepenfjloaaW.PrintWords Go.Proofs.YtelcaepenfjloaaW.PrintLast Go.Proofs.YtelcaepenfjloaaW.PrintMore
set_option linter.unusedVariables false
set_option linter.unusedSimpArgs false
theorem set_pad (y:List Int) (n:Nat) (v:Int):(y ++ List.replicate (n+1) 0).set y.length v=(y ++ [v]) ++ List.replicate n 0:=by
 rw [List.set_append_right _ _ (Nat.le_refl _),Nat.sub_self,List.replicate_succ,List.set_cons_zero,List.append_assoc]
 rfl
/-! ### The padding, the sum -/
theorem bytesOf_extract (s:ByteArray) (a b:Nat):bytesOf (s.extract a b)=((bytesOf s).drop a).take (b - a):=by
 unfold bytesOf
 rw [ByteArray.data_extract,Array.toList_extract,List.map_take,List.map_drop]
theorem outB_length (st:List Int):(outB st).length=4 * st.length:=by
 induction st with
 | nil=>rfl
 | cons a l ih=>rw [outB,List.flatMap_cons,List.length_append,← outB,ih];simp;omega
theorem blocks_len:∀ (k:Nat) (st l:List Int),st.length=8→(blocks k st l).length=8
 | 0,_,_,h=>h
 | k+1,st,l,h=>by
  rw [blocks]
  split
  ·
   exact blocks_len k _ _ (mixB_len _ _ h)
  ·
   exact h
theorem shaSum_size (s:ByteArray):(shaSum s).size=32:=by
 unfold shaSum
 rw [strOfNums_size,outB_length,blocks_len _ _ _ (hashGo_len _ _ _ _ (by omega) (by simp) rfl).1]
theorem sha_f (s:ByteArray) (h:s.size≤65536):sha_Sum.f s=some (shaSum s):=if_pos h
end Go.Proofs.Ytelcaepenfjloaa.Pure
/-! #### PurePrng1 -/
/- prng in plain words: the bytes of a number, the blocks and the words of a seed. -/
namespace Go.Proofs.Ytelcaepenfjloaa.Pure
open Go.RowKit Go.Proofs.Ytelcaepenfjloaa.Print Go.Proofs.YtelcaepenfjloaaW.PrintWords Go.Proofs.YtelcaepenfjloaaW.PrintLast Go.Proofs.YtelcaepenfjloaaW.PrintMore
set_option linter.unusedVariables false
set_option linter.unusedSimpArgs false
def putL (x:Int):Nat→List Int
 | 0=>[]
 | n+1=>x / 256 ^ n % 256 :: putL x n
theorem putL_length (x:Int):∀ n,(putL x n).length=n
 | 0=>rfl
 | n+1=>by rw [putL,List.length_cons,putL_length x n]
theorem shr_i64 (x:Int) (n:Nat) (h:n≤7):shr .i64 x (wrap64 (8 * (n:Int)))=x / 256 ^ n:=by
 have e:wrap64 (8 * (n:Int))=((8 * n:Nat):Int):=by unfold wrap64;omega
 rw [e]
 unfold shr
 have hb:IntKind.i64.bits=64:=rfl
 rw [hb,Int.toNat_natCast,Nat.min_eq_left (by omega)]
 congr 1
 rcases (by omega:n=0∨n=1∨n=2∨n=3∨n=4∨n=5∨n=6∨n=7) with rfl|rfl|rfl|rfl|rfl|rfl|rfl|rfl <;> rfl
theorem put_l0 (x:Int):∀ (n:Nat) (acc:List Int),n≤7→acc.length≤100 - n→Ev (fun k=>oct_Put.l0 k x acc ((n:Int) - 1)) (strOfNums (acc ++ putL x n),0)
 | 0,acc,h,ha=>by
  refine Ev.succ ?_
  simp only [oct_Put.l0]
  refine Ev.neg (by omega) (Ev.some_ ?_)
  rw [putL,List.append_nil]
 | n+1,acc,h,ha=>by
  refine Ev.succ ?_
  simp only [oct_Put.l0]
  have e:(((n+1:Nat):Int) - 1)=n:=by omega
  have e2:wrap64 ((n:Int) - 1)=(n:Int) - 1:=by unfold wrap64;omega
  have e3:wrap64 (8 * (n:Int))=8 * n:=by unfold wrap64;omega
  rw [e,shr_i64 x n (by omega),e2]
  refine Ev.pos (by omega) (Ev.pos (by rw [e3];omega) (Ev.pos (by omega) ?_))
  have:=put_l0 x n (acc ++ [x / 256 ^ n % 256]) (by omega) (by rw [List.length_append,List.length_singleton];omega)
  rw [List.append_assoc] at this
  exact this
def putR (x:Int):ByteArray×Int:=if 0≤x∧x < 72057594037927936 then (strOfNums (putL x 7),0) else (⟨#[]⟩,8)
theorem put_ev (x:Int):Ev (fun k=>oct_Put.f k x 7) (putR x):=by
 unfold oct_Put.f
 refine Ev.neg (by omega) ?_
 rw [decide_eq_false (by omega)]
 refine Ev.succ ?_
 simp only [oct_Put.j0]
 refine Ev.neg (by simp) ?_
 have e3:wrap64 (8 * (7:Int))=56:=by unfold wrap64;omega
 have es:shr .i64 x (wrap64 (8 * 7))=x / 256 ^ 7:=shr_i64 x 7 (by omega)
 rw [es]
 have hp:(256:Int) ^ 7=72057594037927936:=by decide
 rw [hp]
 unfold putR
 by_cases h0:x < 0
 ·
  rw [if_neg (by omega)]
  exact Ev.pos h0 (Ev.some_ rfl)
 ·
  refine Ev.neg h0 (Ev.pos (by rw [e3];omega) ?_)
  by_cases h1:x < 72057594037927936
  ·
   rw [if_pos ⟨by omega,h1⟩]
   refine Ev.pos (by omega) ?_
   rw [show wrap64 (7 - 1)=((7:Nat):Int) - 1 by decide +kernel]
   exact put_l0 x 7 [] (by omega) (by simp)
  ·
   rw [if_neg (by omega)]
   exact Ev.neg (by omega) (Ev.some_ rfl)
/-! ### Blocks -/
def blockT (seed:ByteArray) (x:Int):ByteArray:=(((⟨#[2]⟩:ByteArray) ++ strOfNums [(seed.size:Int) % 256]) ++ seed) ++ strOfNums (putL x 7)
def blockB (seed:ByteArray) (x:Int):ByteArray:=if 0≤x∧x < 72057594037927936∧seed.size≤64 then shaSum (blockT seed x) else ⟨#[]⟩
theorem two_size:(⟨#[2]⟩:ByteArray).size=1:=rfl
theorem block_ev (seed:ByteArray) (x:Int) (hs:seed.size≤9223372036854775000):Ev (fun k=>prng_Block.f k seed x) (blockB seed x):=by
 unfold prng_Block.f
 refine Ev.bind (put_ev x) ?_
 unfold blockB putR
 by_cases h:0≤x∧x < 72057594037927936
 ·
  rw [if_pos h]
  refine Ev.pos rfl ?_
  by_cases h2:seed.size≤64
  ·
   rw [if_pos (show 0≤x∧x < 72057594037927936∧seed.size≤64 from ⟨h.1,h.2,h2⟩)]
   refine Ev.neg (by omega) (Ev.some_bind ?_)
   have s1:(strOfNums [(seed.size:Int) % 256]).size=1:=by rw [strOfNums_size];rfl
   have s2:(strOfNums (putL x 7)).size=7:=by rw [strOfNums_size,putL_length]
   refine Ev.pos (by omega) (Ev.pos (by simp only [ByteArray.size_append,two_size];omega) (Ev.pos (by simp only [ByteArray.size_append,two_size];omega) ?_))
   refine Ev.call (sha_f _ ?_) (Ev.some_ rfl)
   simp only [ByteArray.size_append,two_size]
   omega
  ·
   rw [if_neg (show ¬ (0≤x∧x < 72057594037927936∧seed.size≤64) by omega)]
   exact Ev.pos (by omega) (Ev.some_ rfl)
 ·
  rw [if_neg h,if_neg (show ¬ (0≤x∧x < 72057594037927936∧seed.size≤64) by omega)]
  exact Ev.neg (by simp) (Ev.some_ rfl)
/-! ### Words -/
def getN (l:List Int) (acc:Int):Int:=l.foldl (fun a b=>a * 256+b) acc
theorem wraps_62 (n:Int) (h₀:0≤n) (h₁:n < 2 ^ 62):IntKind.i64.wrap n=n:=by rw [IntKind.wrap_i64];omega
theorem i64_or8 (x y:Int) (hx₀:0≤x) (hx:x % 256=0) (hx₁:x < 2 ^ 62) (hy₀:0≤y) (hy:y < 256):Go.bits .or .i64 x y=x+y :=
 bits_join .i64 62 (by decide) wraps_62 8 x y hx₀ (by omega) hx₁ hy₀ (by omega) (by omega)
theorem get_l0:∀ (n:Nat) (s:ByteArray) (acc:Int) (m:Nat),s.size=n→n+m≤7→0≤acc→acc < 256 ^ m→Ev (fun k=>oct_Get.l0 k s acc) (getN (bytesOf s) acc)
 | 0,s,acc,m,hs,hm,h0,h1=>by
  refine Ev.succ ?_
  simp only [oct_Get.l0]
  have hb:bytesOf s=[]:=List.eq_nil_of_length_eq_zero (by rw [bytesOf_length];exact hs)
  have hl:s.toList=[]:=by
   have:s.data.toList=[]:=List.eq_nil_of_length_eq_zero (by simpa using hs)
   rw [ByteArray.toList_eq]
   exact this
  refine Ev.pos hl (Ev.some_ ?_)
  rw [hb]
  rfl
 | n+1,s,acc,m,hs,hm,h0,h1=>by
  refine Ev.succ ?_
  simp only [oct_Get.l0]
  have hne:¬ s.toList=([]:List UInt8):=fun e=>by
   rw [ByteArray.toList_eq] at e
   have h2:s.data.toList.length=0:=by rw [e];rfl
   have h3:s.data.toList.length=s.size:=by simp
   omega
  have hr:=bt_range s 0
  have hm4:(256:Int) ^ m≤256 ^ 6:=by
   rcases (by omega:m=0∨m=1∨m=2∨m=3∨m=4∨m=5∨m=6) with rfl|rfl|rfl|rfl|rfl|rfl|rfl <;> decide
  have h6:(256:Int) ^ 6=281474976710656:=by decide
  have e1:wrap64 (acc * 256)=acc * 256:=by unfold wrap64;omega
  have e2:wrap64 (bt s 0)=bt s 0:=by unfold wrap64;omega
  rw [e1,e2,i64_or8 _ _ (by omega) (by omega) (by omega) hr.1 (by omega)]
  refine Ev.neg hne (Ev.pos (by omega) (Ev.pos (by omega) ?_))
  have hsz:(s.extract 1 s.size).size=n:=by rw [ByteArray.size_extract];omega
  have hb:bytesOf s=bt s 0 :: bytesOf (s.extract 1 s.size):=by
   rw [bytesOf_extract,List.take_of_length_le (by rw [List.length_drop,bytesOf_length];omega)]
   have hl:0 < (bytesOf s).length:=by rw [bytesOf_length];omega
   have:=List.drop_eq_getElem_cons hl
   rw [List.drop_zero] at this
   refine this.trans ?_
   congr 1
   have h2:=rd_bytesOf s 0
   rw [← h2]
   simp [rd,List.getD_eq_getElem?_getD,hl]
  have:=get_l0 n (s.extract 1 s.size) (acc * 256+bt s 0) (m+1) hsz (by omega) (by omega) (by rw [Int.pow_succ];omega)
  rw [hb]
  exact this
theorem get_ev (s:ByteArray) (h:s.size≤7):Ev (fun k=>oct_Get.f k s) (getN (bytesOf s) 0):=by
 unfold oct_Get.f
 refine Ev.neg (by omega) (get_l0 s.size s 0 0 rfl (by omega) (by omega) (by decide))
/-- The word that is number i of a seed. -/
def wordI (seed:ByteArray) (i:Int):Int:=getN (bytesOf ((blockB seed (i / 8)).extract (4 * (i % 8)).toNat (4 * (i % 8)+4).toNat)) 0
theorem getN_range:∀ (l:List Int) (acc:Int) (m:Nat),(∀ x∈l,0≤x∧x≤255)→0≤acc→acc < 256 ^ m→0≤getN l acc∧getN l acc < 256 ^ (m+l.length)
 | [],acc,m,h,h0,h1=>⟨h0,h1⟩
 | x :: l,acc,m,h,h0,h1=>by
  have hx:=h x (by simp)
  have:=getN_range l (acc * 256+x) (m+1) (fun y hy=>h y (by simp [hy])) (by omega) (by rw [Int.pow_succ];omega)
  rw [List.length_cons,show m+(l.length+1)=m+1+l.length by omega]
  exact this
theorem bytesOf_range (s:ByteArray):∀ x∈bytesOf s,0≤x∧x≤255:=by
 intro x hx
 unfold bytesOf at hx
 rw [List.mem_map] at hx
 obtain ⟨b,_,rfl⟩:=hx
 have:=b.toNat_lt
 omega
theorem blockB_size (seed:ByteArray) (x:Int) (h:0≤x∧x < 72057594037927936∧seed.size≤64):(blockB seed x).size=32:=by rw [blockB,if_pos h];exact shaSum_size _
theorem wordI_range (seed:ByteArray) (i:Int) (h:0≤i∧i≤2000000000∧seed.size≤64):0≤wordI seed i∧wordI seed i < 4294967296:=by
 have hs:=blockB_size seed (i / 8) ⟨by omega,by omega,h.2.2⟩
 have:=getN_range (bytesOf ((blockB seed (i / 8)).extract (4 * (i % 8)).toNat (4 * (i % 8)+4).toNat)) 0 0 (bytesOf_range _) (by omega) (by decide)
 rw [bytesOf_length,ByteArray.size_extract,hs,show 0+(min (4 * (i % 8)+4).toNat 32 - (4 * (i % 8)).toNat)=4 by omega] at this
 exact this
/-- What stands in a generator behind used words. -/
def GenI (seed:ByteArray) (used:Int) (b:ByteArray):Prop:=seed.size≤64∧0≤used∧(used % 8≠0→b=blockB seed (used / 8))
theorem GenI.start (seed:ByteArray) (h:seed.size≤64) (b:ByteArray):GenI seed 0 b:=⟨h,by omega,fun h=>absurd rfl h⟩
theorem GenI.next {seed:ByteArray} {used:Int} {b:ByteArray} (h:GenI seed used b):GenI seed (used+1) (blockB seed (used / 8)) :=
 ⟨h.1,by have:=h.2.1;omega,fun h8=>by rw [show (used+1) / 8=used / 8 by omega]⟩
theorem word_ev (seed:ByteArray) (used:Int) (b:ByteArray) (h:GenI seed used b) (hu:used≤1000000000):Ev (fun k=>prng_Gen_Word.f k seed used b) (wordI seed used,seed,used+1,blockB seed (used / 8)):=by
 obtain ⟨hs,h0,hb⟩:=h
 unfold prng_Gen_Word.f
 have m:Int.tmod used 8=used % 8:=Int.tmod_eq_emod_of_nonneg h0
 have q:Int.tdiv used 8=used / 8:=Int.tdiv_eq_ediv_of_nonneg h0
 refine Ev.pos ⟨h0,hu⟩ (Ev.bind (a:=blockB seed (used / 8)) ?_ (Ev.bind (a:=wordI seed used) ?_ (Ev.some_ rfl)))
 ·
  unfold wordBlock
  rw [m,q]
  by_cases h8:used % 8=0
  ·
   exact Ev.pos h8 (block_ev seed _ (by omega))
  ·
   exact Ev.neg h8 (Ev.some_ (hb h8))
 ·
  unfold wordPart
  have hsz:=blockB_size seed (used / 8) ⟨by omega,by omega,hs⟩
  rw [m]
  refine Ev.pos (by omega) (Ev.bind (get_ev _ (by rw [ByteArray.size_extract];omega)) (Ev.some_ ?_))
  have:=wordI_range seed used ⟨h0,by omega,hs⟩
  show wordI seed used % 4294967296=_
  omega
end Go.Proofs.Ytelcaepenfjloaa.Pure
/-! #### PurePrng2 -/
/- prng in plain words: what is chosen, drawn below a number, picked. -/
namespace Go.Proofs.Ytelcaepenfjloaa.Pure
open Go.RowKit Go.Proofs.Ytelcaepenfjloaa.Print Go.Proofs.YtelcaepenfjloaaW.PrintWords Go.Proofs.YtelcaepenfjloaaW.PrintLast Go.Proofs.YtelcaepenfjloaaW.PrintMore
set_option linter.unusedVariables false
set_option linter.unusedSimpArgs false
def bndN (n:Int):Int:=4294967296 - 4294967296 % n
theorem bndN_pos (n:Int) (h:1≤n) (h2:n≤2147483647):0 < bndN n∧bndN n≤4294967296:=by
 have a:=Int.emod_nonneg 4294967296 (show n≠0 by omega)
 have b:=Int.emod_lt_of_pos 4294967296 (show 0 < n by omega)
 unfold bndN
 omega
theorem bound_f (n:Int) (h:1≤n) (h2:n≤2147483647):prng_bound.f n=some (bndN n):=by
 have:=bndN_pos n h h2
 unfold prng_bound.f
 rw [if_neg (by omega)]
 show some (wrap64 (bndN n))=_
 rw [wrap_of (by omega) (by omega)]
theorem may_f (n:Int):prng_may.f n=some (decide (1≤n∧n≤2147483647)):=by
 unfold prng_may.f
 by_cases h:1≤n
 ·
  rw [if_pos h]
  simp [h]
 ·
  rw [if_neg (by omega)]
  simp [h]
def chG (n m:Int):List Int→Int→Int→Int×Int
 | [],last,used=>(Int.tmod last n,used)
 | w :: t,_,used=>if w < m then (Int.tmod w n,used+1) else chG n m t w (used+1)
theorem chG_range (n m:Int) (hn:1≤n):∀ (l:List Int) (last used:Int),(∀ x∈l,0≤x)→0≤last→0≤(chG n m l last used).1∧(chG n m l last used).1 < n∧used≤(chG n m l last used).2∧(chG n m l last used).2≤used+l.length
 | [],last,used,h,h0=>⟨Int.tmod_nonneg n h0,Int.tmod_lt_of_pos last (by omega),by simp [chG],by simp [chG]⟩
 | w :: t,last,used,h,h0=>by
  have hw:=h w (by simp)
  unfold chG
  split
  ·
   exact ⟨Int.tmod_nonneg n hw,Int.tmod_lt_of_pos w (by omega),by simp;omega,by simp;omega⟩
  ·
   have:=chG_range n m hn t w (used+1) (fun x hx=>h x (by simp [hx])) hw
   rw [List.length_cons]
   refine ⟨this.1,this.2.1,by omega,by omega⟩
def chooseP (l:List Int) (n:Int):Int×Int:=if 1≤n∧n≤2147483647∧l≠[] then chG n (bndN n) (l.take 8) 0 0 else (0,0)
def U32 (l:List Int):Prop:=∀ x∈l,0≤x∧x < 4294967296
theorem choose_l0 (n:Int) (hn:1≤n) (hn2:n≤2147483647) (y:List Int) (hy:U32 y) (h8:y.length≤8) (h1:0 < y.length):∀ (d i:Nat) (last:Int),i+d=y.length→(0 < i→last=y.getD (i - 1) 0) →
  Ev (fun k=>prng_Choose.l0 k y n y (y.length:Int) (i:Int)) (chG n (bndN n) (y.drop i) last i)
 | 0,i,last,h,hlast=>by
  have hi:i=y.length:=by omega
  have hl:=hlast (by omega)
  refine Ev.succ ?_
  simp only [prng_Choose.l0]
  rw [show wrap64 ((y.length:Int) - 1)=((y.length - 1:Nat):Int) by unfold wrap64;omega]
  refine Ev.neg (by omega) (Ev.pos (by omega) (Ev.pos (by omega) (Ev.neg (by omega) (Ev.some_ ?_))))
  rw [List.drop_eq_nil_of_le (by omega),chG,rd_nat,hl,hi]
  have hv:=hy (y.getD (y.length - 1) 0) (by rw [List.getD_eq_getElem?_getD,List.getElem?_eq_getElem (by omega)];exact List.getElem_mem _)
  rw [wrap_of (by omega) (by omega)]
 | d+1,i,last,h,hlast=>by
  have hi:i < y.length:=by omega
  refine Ev.succ ?_
  simp only [prng_Choose.l0]
  have hv:=hy y[i] (List.getElem_mem _)
  rw [bound_f n hn hn2,rd_lt y i hi,wrap_of (x:=y[i]) (by omega) (by omega),wrap_succ i (by omega),List.drop_eq_getElem_cons hi]
  refine Ev.pos (by omega) (Ev.pos (by omega) (Ev.pos (by omega) (Ev.some_bind ?_)))
  unfold chG
  by_cases c:y[i] < bndN n
  ·
   rw [if_pos c]
   exact Ev.pos c (Ev.neg (by omega) (Ev.some_ rfl))
  ·
   rw [if_neg c]
   refine Ev.neg c ?_
   exact choose_l0 n hn hn2 y hy h8 h1 d (i+1) y[i] (by omega) (fun _=>by simp [List.getD_eq_getElem?_getD,hi])
theorem U32.take {l:List Int} (h:U32 l) (k:Nat):U32 (l.take k):=fun x hx=>h x (List.mem_of_mem_take hx)
theorem choose_ev (l:List Int) (n:Int) (hl:U32 l) (hlen:l.length≤9223372036854775807):Ev (fun k=>prng_Choose.f k l n) (chooseP l n):=by
 unfold prng_Choose.f
 refine Ev.call (may_f n) ?_
 unfold chooseP
 by_cases hm:1≤n∧n≤2147483647
 ·
  rw [decide_eq_true hm]
  refine Ev.pos rfl (Ev.succ ?_)
  simp only [prng_Choose.j0]
  by_cases h0:l=[]
  ·
   subst h0
   exact Ev.pos (by simp) (Ev.some_ (by simp))
  ·
   have hpos:0 < l.length:=List.length_pos_iff.2 h0
   have hmn:mn (l.length:Int) 8=(((l.take 8).length:Nat):Int):=by
    unfold mn
    rw [List.length_take]
    split <;> omega
   rw [if_pos ⟨hm.1,hm.2,h0⟩,hmn,Int.toNat_natCast]
   have ht:l.take (l.take 8).length=l.take 8:=by
    rw [List.length_take]
    rcases Nat.lt_or_ge l.length 8 with h|h
    ·
     rw [Nat.min_eq_right (by omega),List.take_of_length_le (by omega),List.take_of_length_le (by omega)]
    ·
     rw [Nat.min_eq_left h]
   rw [ht]
   have h8:(l.take 8).length≤8:=by rw [List.length_take];omega
   have h1:0 < (l.take 8).length:=by rw [List.length_take];omega
   have hle:(l.take 8).length≤l.length:=by rw [List.length_take];omega
   refine Ev.neg (by simp;omega) (Ev.pos (by omega) (Ev.pos (by omega) ?_))
   have:=choose_l0 n hm.1 hm.2 (l.take 8) (hl.take 8) h8 h1 (l.take 8).length 0 0 (by omega) (fun h=>absurd h (by omega))
   rw [List.drop_zero] at this
   exact this
 ·
  rw [decide_eq_false hm,if_neg (fun h=>hm ⟨h.1,h.2.1⟩)]
  refine Ev.neg (by simp) (Ev.succ ?_)
  simp only [prng_Choose.j0]
  exact Ev.pos (by simp) (Ev.some_ rfl)
theorem refchoose_l0 (n:Int) (hn:1≤n) (hn2:n≤2147483647) (l:List Int) (hl:U32 l) (hlen:l.length≤9223372036854775807):∀ (d i:Nat) (last:Int),i+d=(l.take 8).length →
  Ev (fun k=>mosaicref04_Choose.l0 k l n (bndN n) last (i:Int) (i:Int)) (chG n (bndN n) ((l.take 8).drop i) last i)
 | 0,i,last,h=>by
  have hi:i=(l.take 8).length:=by omega
  rw [List.length_take] at hi
  rw [List.drop_eq_nil_of_le (by rw [List.length_take];omega),chG]
  refine Ev.succ ?_
  simp only [mosaicref04_Choose.l0]
  have fin:Ev (fun k=>mosaicref04_Choose.j2 k l n (bndN n) last (i:Int) (i:Int) false) (Int.tmod last n,(i:Int)):=by
   refine Ev.succ ?_
   simp only [mosaicref04_Choose.j2]
   exact Ev.neg (by simp) (Ev.neg (by omega) (Ev.some_ rfl))
  by_cases c:(i:Int) < (l.length:Int)
  ·
   refine Ev.pos c ?_
   rw [decide_eq_false (by omega)]
   exact fin
  ·
   exact Ev.neg c fin
 | d+1,i,last,h=>by
  have hi:i < (l.take 8).length:=by omega
  have hi2:=hi
  rw [List.length_take] at hi2
  have hil:i < l.length:=by omega
  refine Ev.succ ?_
  simp only [mosaicref04_Choose.l0]
  refine Ev.pos (by omega) ?_
  rw [decide_eq_true (by omega)]
  refine Ev.succ ?_
  simp only [mosaicref04_Choose.j2]
  have hv:=hl l[i] (List.getElem_mem _)
  rw [rd_lt l i hil,wrap_of (x:=l[i]) (by omega) (by omega),wrap_succ i (by omega),List.drop_eq_getElem_cons hi,List.getElem_take]
  refine Ev.pos (by simp) (Ev.pos (by omega) (Ev.pos (by omega) ?_))
  unfold chG
  by_cases c:l[i] < bndN n
  ·
   rw [if_pos c]
   exact Ev.pos c (Ev.neg (by omega) (Ev.some_ rfl))
  ·
   rw [if_neg c]
   exact Ev.neg c (refchoose_l0 n hn hn2 l hl hlen d (i+1) l[i] (by omega))
theorem refchoose_ev (l:List Int) (n:Int) (hl:U32 l) (hlen:l.length≤9223372036854775807):Ev (fun k=>mosaicref04_Choose.f k l n) (chooseP l n):=by
 unfold mosaicref04_Choose.f
 have bad:Ev (fun k=>mosaicref04_Choose.j0 k l n true) (0,0):=by
  refine Ev.succ ?_
  simp only [mosaicref04_Choose.j0]
  exact Ev.pos (by simp) (Ev.some_ rfl)
 unfold chooseP
 by_cases h1:n < 1
 ·
  rw [if_neg (fun h=>by omega)]
  exact Ev.pos h1 bad
 refine Ev.neg h1 ?_
 by_cases h2:n > 2147483647
 ·
  rw [if_neg (fun h=>by omega)]
  exact Ev.pos h2 bad
 refine Ev.neg h2 ?_
 by_cases h0:l=[]
 ·
  subst h0
  rw [if_neg (fun h=>h.2.2 rfl)]
  exact bad
 have hpos:0 < l.length:=List.length_pos_iff.2 h0
 rw [if_pos ⟨by omega,by omega,h0⟩,show ((l.length:Int) == 0)=false by simp;omega]
 refine Ev.succ ?_
 simp only [mosaicref04_Choose.j0]
 have hb:=bndN_pos n (by omega) (by omega)
 rw [show wrap64 (4294967296 - 4294967296 % n)=bndN n from wrap_of (show _≤bndN n by omega) (show bndN n≤_ by omega)]
 refine Ev.neg (by simp) (Ev.neg (by omega) ?_)
 have:=refchoose_l0 n (by omega) (by omega) l hl hlen (l.take 8).length 0 0 (by omega)
 rw [List.drop_zero] at this
 exact this
/-! ### Below -/
def wsL (seed:ByteArray):Int→Nat→List Int
 | _,0=>[]
 | u,c+1=>wordI seed u :: wsL seed (u+1) c
theorem wsL_length (seed:ByteArray):∀ (c:Nat) (u:Int),(wsL seed u c).length=c
 | 0,_=>rfl
 | c+1,u=>by rw [wsL,List.length_cons,wsL_length seed c]
theorem wsL_U32 (seed:ByteArray) (hs:seed.size≤64):∀ (c:Nat) (u:Int),0≤u→u+c≤2000000000→U32 (wsL seed u c)
 | 0,_,_,_=>fun x hx=>absurd hx (by simp [wsL])
 | c+1,u,h0,h1=>by
  intro x hx
  rw [wsL,List.mem_cons] at hx
  rcases hx with rfl|hx
  ·
   exact wordI_range seed u ⟨h0,by omega,hs⟩
  ·
   exact wsL_U32 seed hs c (u+1) (by omega) (by omega) x hx
def belowP (seed:ByteArray) (u n:Int):Int×Int:=if 1≤n∧n≤2147483647 then chG n (bndN n) (wsL seed u 8) 0 0 else (0,0)
theorem belowP_range (seed:ByteArray) (u n:Int) (hs:seed.size≤64) (h0:0≤u) (h1:u≤1000000000):0≤(belowP seed u n).1∧(1≤n→n≤2147483647→(belowP seed u n).1 < n)∧0≤(belowP seed u n).2∧(belowP seed u n).2≤8:=by
 unfold belowP
 split
 ·
  rename_i h
  have hU:=wsL_U32 seed hs 8 u h0 (by omega)
  have:=chG_range n (bndN n) h.1 (wsL seed u 8) 0 0 (fun x hx=>(hU x hx).1) (by omega)
  rw [wsL_length] at this
  exact ⟨this.1,fun _ _=>this.2.1,this.2.2.1,by omega⟩
 ·
  rename_i h
  exact ⟨by simp,fun h1 h2=>absurd ⟨h1,h2⟩ h,by simp,by simp⟩
theorem below_l0 (seed:ByteArray) (u0 n:Int) (hn:1≤n) (hn2:n≤2147483647) (hu:u0+8≤1000000000):∀ (c i:Nat) (last:Int) (b:ByteArray),i+c=8→GenI seed (u0+i) b →
  ∃ b',GenI seed (u0+(chG n (bndN n) (wsL seed (u0+i) c) last i).2) b'∧Ev (fun k=>prng_Gen_Below.l0 k n last (i:Int) seed (u0+i) b) ((chG n (bndN n) (wsL seed (u0+i) c) last i).1,seed,u0+(chG n (bndN n) (wsL seed (u0+i) c) last i).2,b')
 | 0,i,last,b,h,hg=>by
  refine ⟨b,hg,Ev.succ ?_⟩
  simp only [prng_Gen_Below.l0]
  exact Ev.neg (by omega) (Ev.neg (by omega) (Ev.some_ rfl))
 | c+1,i,last,b,h,hg=>by
  have hr:=wordI_range seed (u0+i) ⟨hg.2.1,by omega,hg.1⟩
  have hnx:=hg.next
  rw [show u0+(i:Int)+1=u0+((i+1:Nat):Int) by omega] at hnx
  have hw:=word_ev seed (u0+i) b hg (by omega)
  rw [show u0+(i:Int)+1=u0+((i+1:Nat):Int) by omega] at hw
  have hb:=bound_f n hn hn2
  rw [wsL,show u0+(i:Int)+1=u0+((i+1:Nat):Int) by omega]
  unfold chG
  by_cases cc:wordI seed (u0+i) < bndN n
  ·
   rw [if_pos cc]
   refine ⟨_,hnx,Ev.succ ?_⟩
   simp only [prng_Gen_Below.l0]
   refine Ev.pos (by omega) (Ev.bind hw (Ev.call hb ?_))
   simp only []
   rw [wrap_of (x:=wordI seed (u0+i)) (by omega) (by omega)]
   exact Ev.pos cc (Ev.neg (by omega) (Ev.some_ rfl))
  ·
   rw [if_neg cc]
   obtain ⟨b',g',e'⟩:=below_l0 seed u0 n hn hn2 hu c (i+1) (wordI seed (u0+i)) _ (by omega) hnx
   refine ⟨b',g',Ev.succ ?_⟩
   simp only [prng_Gen_Below.l0]
   refine Ev.pos (by omega) (Ev.bind hw (Ev.call hb ?_))
   simp only []
   rw [wrap_of (x:=wordI seed (u0+i)) (by omega) (by omega),wrap_succ i (by omega)]
   exact Ev.neg cc e'
theorem below_ev (seed:ByteArray) (u n:Int) (b:ByteArray) (hg:GenI seed u b) (hu:u+8≤1000000000) :
  ∃ b',GenI seed (u+(belowP seed u n).2) b'∧Ev (fun k=>prng_Gen_Below.f k seed u b n) ((belowP seed u n).1,seed,u+(belowP seed u n).2,b'):=by
 unfold prng_Gen_Below.f belowP
 by_cases hm:1≤n∧n≤2147483647
 ·
  rw [if_pos hm]
  have:=below_l0 seed u n hm.1 hm.2 hu 8 0 0 b rfl (by simpa using hg)
  simp only [show u+((0:Nat):Int)=u by omega] at this
  obtain ⟨b',g',e'⟩:=this
  refine ⟨b',g',Ev.call (may_f n) ?_⟩
  rw [decide_eq_true hm]
  exact Ev.pos rfl e'
 ·
  rw [if_neg hm]
  refine ⟨b,by simpa using hg,Ev.call (may_f n) ?_⟩
  rw [decide_eq_false hm]
  exact Ev.neg (by simp) (Ev.some_ (by simp))
end Go.Proofs.Ytelcaepenfjloaa.Pure
/-! #### Pr68 -/
namespace Go.Proofs.Ytelcaepenfjloaa.Print
open Go.RowKit Go.Proofs.YtelcaepenfjloaaW.PrintWords Go.Proofs.YtelcaepenfjloaaW.PrintLast Go.Proofs.YtelcaepenfjloaaW.PrintMore
attribute [local go_sem] max2_int min2_int max_two min_two max_three min_three max_four min_four
set_option linter.unusedVariables false
set_option linter.unusedSimpArgs false
/-! ### prng_Gen_Used: function 68 -/
def prng_Gen_Used.f (s0_0:ByteArray) (s0_1:Int) (s0_2:ByteArray):Option (Int×ByteArray×Int×ByteArray):=some (s0_1,s0_0,s0_1,s0_2)
set_option maxHeartbeats 8000000 in
set_option maxRecDepth 100000 in
theorem prng_Gen_Used.calls (g:Nat) (s0_0:ByteArray) (s0_1:Int) (s0_2:ByteArray) (r1:Int) (r2:ByteArray) (r3:Int) (r4:ByteArray) (w0 w:World) (hI:IsS130 w0 w g s0_0 s0_1 s0_2) (hB:Below w0.heap.size w0 w) (h:prng_Gen_Used.f s0_0 s0_1 s0_2=some (r1,r2,r3,r4)) :
  Calls Try.prog 68 #[.pointer (some ⟨g,0,none⟩)] w fun e w'=>e=.returned (.int .i64 r1)∧IsS130 w0 w' g r2 r3 r4∧Below w0.heap.size w0 w'∧KeepBut w w' g none:=by
 have HI0:=Aside0.mk hI
 have HK:=Aside0.mk (KeepBut.refl w g none)
 have HL:=Aside0.mk hB.size
 clear hI
 have HW0:=Aside0.mk hB.size
 have HB:=Aside0.mk hB
 clear hB
 have H:(some (s0_1,s0_0,s0_1,s0_2))=some (r1,r2,r3,r4):=h
 clear h
 simp only [Option.some.injEq,Prod.mk.injEq] at H
 obtain ⟨rfl,rfl,rfl,rfl⟩:=H
 obtain ⟨HGz2,hgz2⟩:=HI0.out
 have hcz2_0:=cellS130_0 HGz2
 have hcz2_1:=cellS130_1 HGz2
 have hcz2_2:=cellS130_2 HGz2
 have hfz2_0:=blk_frozen HGz2 0
 have hfz2_1:=blk_frozen HGz2 1
 have hfz2_2:=blk_frozen HGz2 2
 clear HGz2 hgz2
 go_enter Try.func68,Try.ntmps68
 go_wp2
 go_ret
 exact ⟨by first|rfl|(simp [errW_none,errW_some] <;> rfl)|(simp [*,errW_none,errW_some] <;> rfl),by repeat (first|(with_reducible first|exact HI0.out|apply IsS130.alloc|apply IsS130.drewN|apply IsS130.drew|apply IsS130.set_0|apply IsS130.set_1|apply IsS130.set_2)|exact HI0.out),by repeat (first|(with_reducible first|exact HB.out|apply below_alloc|apply pw_below_drewN|apply below_drew1|refine below_set ?_ (IsS130.ge HI0.out))|exact HB.out),by repeat (first|(with_reducible first|exact HK.out|apply KeepBut.set_|apply keep_drewN|apply keep_drew|apply keep_alloc)|exact HK.out)⟩
end Go.Proofs.Ytelcaepenfjloaa.Print
/-! #### Pr71 -/
namespace Go.Proofs.Ytelcaepenfjloaa.Print
open Go.RowKit Go.Proofs.YtelcaepenfjloaaW.PrintWords Go.Proofs.YtelcaepenfjloaaW.PrintLast Go.Proofs.YtelcaepenfjloaaW.PrintMore
attribute [local go_sem] max2_int min2_int max_two min_two max_three min_three max_four min_four
set_option linter.unusedVariables false
set_option linter.unusedSimpArgs false
/-! ### mosaicref04_Gen_Pick: function 71 -/
mutual
def mosaicref04_Gen_Pick.j0:Nat→Int→Int→Bool→ByteArray→Int→Option (ByteArray×Int×List Int)
 | 0,_,_,_,_,_=>none
 | k+1,x1,x2,x28,x542000,x542001=>if x28=true then (some (x542000,x542001,([]:List Int))) else (mosaicref04_Gen_Pick.l0 k x1 x2 ([]:List Int) 0 x542000 x542001)
def mosaicref04_Gen_Pick.l0:Nat→Int→Int→List Int→Int→ByteArray→Int→Option (ByteArray×Int×List Int)
 | 0,_,_,_,_,_,_=>none
 | k+1,x1,x2,x7,x8,x542000,x542001=>if x8 < x1 then (if x7.length < 17592186044416 then (mosaicref04_Gen_Pick.l0 k x1 x2 (x7 ++ [x8]) (wrap64 (x8+1)) x542000 x542001) else (none)) else (mosaicref04_Gen_Pick.l1 k x1 x2 x7 0 x542000 x542001 ([]:List Int))
def mosaicref04_Gen_Pick.l1:Nat→Int→Int→List Int→Int→ByteArray→Int→List Int→Option (ByteArray×Int×List Int)
 | 0,_,_,_,_,_,_,_=>none
 | k+1,x1,x2,x7,x10,x547000,x547001,x547002=>if x10 < x2 then ((mosaicref04_Gen_Below.f k x547000 x547001 (wrap64 (x1 - x10))).bind fun bt547=>(if 0≤x10 then (if x10 < (x7.length:Int) then (if 0≤(wrap64 (x10+bt547.2.2)) then (if (wrap64 (x10+bt547.2.2)) < (x7.length:Int) then ((some ((x7.set (x10:Int).toNat (rd x7 (wrap64 (x10+bt547.2.2)))).set ((wrap64 (x10+bt547.2.2)):Int).toNat (rd x7 x10):List Int)).bind fun y554=>(if x547002.length < 17592186044416 then (mosaicref04_Gen_Pick.l1 k x1 x2 y554 (wrap64 (x10+1)) bt547.1 bt547.2.1 (x547002 ++ [rd y554 x10])) else (none))) else (none)) else (none)) else (none)) else (none))) else (some (x547000,x547001,x547002))
end
def mosaicref04_Gen_Pick.f (k:Nat) (a0_0:ByteArray) (a0_1:Int) (a1:Int) (a2:Int):Option (ByteArray×Int×List Int):=if a1 < 0 then (mosaicref04_Gen_Pick.j0 k a1 a2 true a0_0 a0_1) else (if a1 > 4096 then (mosaicref04_Gen_Pick.j0 k a1 a2 true a0_0 a0_1) else (if a2 < 0 then (mosaicref04_Gen_Pick.j0 k a1 a2 true a0_0 a0_1) else (mosaicref04_Gen_Pick.j0 k a1 a2 (decide (a2 > a1)) a0_0 a0_1)))
theorem mosaicref04_Gen_Pick.mono_l:∀ k,(∀ y0 y1 y2 y3 y4,LeO (mosaicref04_Gen_Pick.j0 k y0 y1 y2 y3 y4) (mosaicref04_Gen_Pick.j0 (k+1) y0 y1 y2 y3 y4))∧(∀ y0 y1 y2 y3 y4 y5,LeO (mosaicref04_Gen_Pick.l0 k y0 y1 y2 y3 y4 y5) (mosaicref04_Gen_Pick.l0 (k+1) y0 y1 y2 y3 y4 y5))∧(∀ y0 y1 y2 y3 y4 y5 y6,LeO (mosaicref04_Gen_Pick.l1 k y0 y1 y2 y3 y4 y5 y6) (mosaicref04_Gen_Pick.l1 (k+1) y0 y1 y2 y3 y4 y5 y6))
 | 0=>⟨fun _ _ _ _ _ r h=>by simp [mosaicref04_Gen_Pick.j0] at h,fun _ _ _ _ _ _ r h=>by simp [mosaicref04_Gen_Pick.l0] at h,fun _ _ _ _ _ _ _ r h=>by simp [mosaicref04_Gen_Pick.l1] at h⟩
 | k+1=>by
  obtain ⟨ih0,ih1,ih2⟩:=mosaicref04_Gen_Pick.mono_l k
  refine ⟨?_,?_,?_⟩
  ·
   intro y0 y1 y2 y3 y4
   unfold mosaicref04_Gen_Pick.j0
   repeat' first
   | (with_reducible exact ih0 _ _ _ _ _)
   | (with_reducible exact ih1 _ _ _ _ _ _)
   | (with_reducible exact ih2 _ _ _ _ _ _ _)
   | (with_reducible exact mosaicref04_Gen_Below.mono _ _ _ _)
   | (with_reducible exact LeO.refl _)
   | (with_reducible exact LeO.none _)
   | (with_reducible refine LeO.ite ?_ ?_)
   | (with_reducible refine LeO.bind ?_ (fun _=>?_))
   | exact ih0 _ _ _ _ _
   | exact ih1 _ _ _ _ _ _
   | exact ih2 _ _ _ _ _ _ _
   | exact mosaicref04_Gen_Below.mono _ _ _ _
   | exact LeO.none _
   | refine LeO.ite ?_ ?_
   | refine LeO.bind ?_ (fun _=>?_)
  ·
   intro y0 y1 y2 y3 y4 y5
   unfold mosaicref04_Gen_Pick.l0
   repeat' first
   | (with_reducible exact ih0 _ _ _ _ _)
   | (with_reducible exact ih1 _ _ _ _ _ _)
   | (with_reducible exact ih2 _ _ _ _ _ _ _)
   | (with_reducible exact mosaicref04_Gen_Below.mono _ _ _ _)
   | (with_reducible exact LeO.refl _)
   | (with_reducible exact LeO.none _)
   | (with_reducible refine LeO.ite ?_ ?_)
   | (with_reducible refine LeO.bind ?_ (fun _=>?_))
   | exact ih0 _ _ _ _ _
   | exact ih1 _ _ _ _ _ _
   | exact ih2 _ _ _ _ _ _ _
   | exact mosaicref04_Gen_Below.mono _ _ _ _
   | exact LeO.none _
   | refine LeO.ite ?_ ?_
   | refine LeO.bind ?_ (fun _=>?_)
  ·
   intro y0 y1 y2 y3 y4 y5 y6
   unfold mosaicref04_Gen_Pick.l1
   repeat' first
   | (with_reducible exact ih0 _ _ _ _ _)
   | (with_reducible exact ih1 _ _ _ _ _ _)
   | (with_reducible exact ih2 _ _ _ _ _ _ _)
   | (with_reducible exact mosaicref04_Gen_Below.mono _ _ _ _)
   | (with_reducible exact LeO.refl _)
   | (with_reducible exact LeO.none _)
   | (with_reducible refine LeO.ite ?_ ?_)
   | (with_reducible refine LeO.bind ?_ (fun _=>?_))
   | exact ih0 _ _ _ _ _
   | exact ih1 _ _ _ _ _ _
   | exact ih2 _ _ _ _ _ _ _
   | exact mosaicref04_Gen_Below.mono _ _ _ _
   | exact LeO.none _
   | refine LeO.ite ?_ ?_
   | refine LeO.bind ?_ (fun _=>?_)
theorem mosaicref04_Gen_Pick.mono:∀ a0 a1 a2 a3 k,LeO (mosaicref04_Gen_Pick.f k a0 a1 a2 a3) (mosaicref04_Gen_Pick.f (k+1) a0 a1 a2 a3):=by
 intro a0 a1 a2 a3 k
 obtain ⟨ih0,ih1,ih2⟩:=mosaicref04_Gen_Pick.mono_l k
 unfold mosaicref04_Gen_Pick.f
 repeat' first
   | (with_reducible exact ih0 _ _ _ _ _)
   | (with_reducible exact ih1 _ _ _ _ _ _)
   | (with_reducible exact ih2 _ _ _ _ _ _ _)
   | (with_reducible exact mosaicref04_Gen_Below.mono _ _ _ _)
   | (with_reducible exact LeO.refl _)
   | (with_reducible exact LeO.none _)
   | (with_reducible refine LeO.ite ?_ ?_)
   | (with_reducible refine LeO.bind ?_ (fun _=>?_))
   | exact ih0 _ _ _ _ _
   | exact ih1 _ _ _ _ _ _
   | exact ih2 _ _ _ _ _ _ _
   | exact mosaicref04_Gen_Below.mono _ _ _ _
   | exact LeO.none _
   | refine LeO.ite ?_ ?_
   | refine LeO.bind ?_ (fun _=>?_)
def mosaicref04_Gen_Pick.T18:Bool×List (List Nat×List Nat):=(true,[([],[]),([0],[0]),([],[]),([],[]),([2,3],[2,3]),([4],[4]),([5],[5]),([1,6],[1,6]),([0,1,2,3,4,5,6,7],[]),([8,7,7,0,1,2,3,4,5,6,7],[7,8])])
def mosaicref04_Gen_Pick.B18:List Nat:=[0,1,0,0,12,28,60,127,255,511]
theorem mosaicref04_Gen_Pick.tab18:rtab .any (opsOf Try.f71 18)=mosaicref04_Gen_Pick.T18:=by kernel_rfl
theorem mosaicref04_Gen_Pick.bits18:waitsOk mosaicref04_Gen_Pick.T18.2 mosaicref04_Gen_Pick.B18=true:=by kernel_rfl
set_option maxHeartbeats 8000000 in
set_option maxRecDepth 100000 in
theorem mosaicref04_Gen_Pick.calls (k:Nat) (a0_0:ByteArray) (a0_1:Int) (a1:Int) (a2:Int) (r1:ByteArray) (r2:Int) (r3:List Int) (w:World) (h:mosaicref04_Gen_Pick.f k a0_0 a0_1 a1 a2=some (r1,r2,r3)) :
  Calls Try.prog 71 #[.agg #[.string a0_0,.int .i64 a0_1],.int .i64 a1,.int .i64 a2] w fun e w'=>∃ v2_:Value,e=.returned (.agg #[.string r1,.int .i64 r2,v2_])∧Kd.R (Kd.int .i64) 3 w' w.heap.size (fun _=>True) v2_ r3∧Below w.heap.size w w':=by
 have hu83:=Try.underlying83
 have hu94:=Try.underlying94
 have hu85:=Try.underlying85
 have HB:=Aside0.mk (Below.refl w.heap.size w)
 have H:(if a1 < 0 then (mosaicref04_Gen_Pick.j0 k a1 a2 true a0_0 a0_1) else (if a1 > 4096 then (mosaicref04_Gen_Pick.j0 k a1 a2 true a0_0 a0_1) else (if a2 < 0 then (mosaicref04_Gen_Pick.j0 k a1 a2 true a0_0 a0_1) else (mosaicref04_Gen_Pick.j0 k a1 a2 (decide (a2 > a1)) a0_0 a0_1))))=some (r1,r2,r3):=h
 clear h
 have HC4:=Aside0.mk H
 clear H
 go_enter Try.func71,Try.ntmps71
 go_upto_region 1 with (first|((with_reducible refine gate_dst (N:=3) rfl ?_);refine box_event ?hg (N:=3) ?hd (cs:=#[.string a0_0,.int .i64 a0_1]) (t:=83) ?hr ?_;(case hd=>rfl);(case hg=>rfl);(case hr=>first|(go_simp;done)|(go_simp;rfl));intro gb541 hg w5 hbox hb;have n0_:=Aside0.mk (below_step (by repeat (first|(with_reducible first|exact HB.out|apply below_alloc|apply pw_below_drewN|apply below_drew1)|exact HB.out)) hb);have n1_:=Aside0.mk (hbox);have n2_:=Aside0.mk ((by rw [hg];exact (below_size (by repeat (first|(with_reducible first|exact HB.out|apply below_alloc|apply pw_below_drewN|apply below_drew1)|exact HB.out))):w.heap.size≤gb541));have n3_:=Aside0.mk ((by rw [hg];exact (below_size (by repeat (first|(with_reducible first|exact HB.out|apply below_alloc|apply pw_below_drewN|apply below_drew1)|exact HB.out))):w.heap.size≤gb541));clear HB;have HB:=n0_;have BK541:=n1_;have GW541:=n2_;have GE541:=n3_;clear n0_ n1_ n2_ n3_;clear hb hbox hg)|((with_reducible refine gate_dst (N:=6) rfl ?_);refine box_event ?hg (N:=6) ?hd (cs:=#[.string (⟨#[]⟩:ByteArray),.int .i64 0,.slice none 0 0]) (t:=94) ?hr ?_;(case hd=>rfl);(case hg=>rfl);(case hr=>first|(go_simp;done)|(go_simp;rfl));intro gb542 hg w6 hbox hb;have n0_:=Aside0.mk (blk_below (g:=gb541) (o:=.cells #[.string a0_0,.int .i64 a0_1] 83 (0,0)) (by (with_reducible repeat (first|refine blk_drewN ?_ _|refine blk_drew ?_|refine blk_alloc ?_ _));exact BK541.out) hb);have n1_:=Aside0.mk (below_step (by repeat (first|(with_reducible first|exact HB.out|apply below_alloc|apply pw_below_drewN|apply below_drew1|refine below_set ?_ GE541.out)|exact HB.out)) hb);have n2_:=Aside0.mk (hbox);have n3_:=Aside0.mk ((by rw [hg];exact (below_size (by repeat (first|(with_reducible first|exact HB.out|apply below_alloc|apply pw_below_drewN|apply below_drew1|refine below_set ?_ GE541.out)|exact HB.out))):w.heap.size≤gb542));have n4_:=Aside0.mk ((by rw [hg];exact (below_size (by repeat (first|(with_reducible first|exact HB.out|apply below_alloc|apply pw_below_drewN|apply below_drew1|refine below_set ?_ GE541.out)|exact HB.out))):w.heap.size≤gb542));have n5_:=Aside0.mk ((by rw [hg];exact Nat.ne_of_lt (blk_lt (g:=gb541) (o:=.cells #[.string a0_0,.int .i64 a0_1] 83 (0,0)) (by (with_reducible repeat (first|refine blk_drewN ?_ _|refine blk_drew ?_|refine blk_alloc ?_ _));exact BK541.out)):gb541≠gb542));have n6_:=Aside0.mk ((by rw [hg];exact Nat.ne_of_gt (blk_lt (g:=gb541) (o:=.cells #[.string a0_0,.int .i64 a0_1] 83 (0,0)) (by (with_reducible repeat (first|refine blk_drewN ?_ _|refine blk_drew ?_|refine blk_alloc ?_ _));exact BK541.out)):gb542≠gb541));clear BK541;clear HB;have BK541:=n0_;have HB:=n1_;have BK542:=n2_;have GW542:=n3_;have GE542:=n4_;have NB541_542:=n5_;have NB542_541:=n6_;clear n0_ n1_ n2_ n3_ n4_ n5_ n6_;clear hb hbox hg))
 (try simp only [Act.put,List.setIfInBounds_toArray,List.set_cons_zero,List.set_cons_succ])
 go_cut [28] (fun v28 wc=>∃ (kq:Nat) (x28_3:Bool),v28=.bool x28_3∧Aside0 (mosaicref04_Gen_Pick.j0 kq a1 a2 x28_3 a0_0 a0_1=some (r1,r2,r3))∧Aside0 (kq≤k)∧Aside0 (wc.heap[gb541]?=some (.cells #[.string a0_0,.int .i64 a0_1] 83 (0,0)))∧Aside0 (wc.heap[gb542]?=some (.cells #[.string (⟨#[]⟩:ByteArray),.int .i64 0,(.slice none 0 0)] 94 (0,0)))∧Aside0 (Below w.heap.size w wc))
 case first =>
  have H:=HC4.out
  clear HC4
  by_cases c7:a1 < 0
  ·
   rw [if_pos c7] at H
   have c7b0:decide (a1 < 0)=true:=decide_eq_true c7
   clear c7
   (first|rw [c7b0]|(simp only [i64_w,i32_w];rw [c7b0])|skip)
   have H':=Aside0.mk H
   clear H
   go_wp2
   go_meet
   case rel=>exact ⟨_,(true),(by first|rfl|(simp;done)|(simp [*];done)),H',⟨by first|omega|exact Nat.le_refl _⟩,⟨by (with_reducible repeat (first|refine blk_drewN ?_ _|refine blk_drew ?_|refine blk_alloc ?_ _));exact BK541.out⟩,⟨by (with_reducible repeat (first|refine blk_drewN ?_ _|refine blk_drew ?_|refine blk_alloc ?_ _));exact BK542.out⟩,⟨by repeat (first|(with_reducible first|exact HB.out|apply below_alloc|apply pw_below_drewN|apply below_drew1|refine below_set ?_ GE541.out|refine below_set ?_ GE542.out)|exact HB.out)⟩⟩
  ·
   rw [if_neg c7] at H
   have c7b0:decide (a1 < 0)=false:=decide_eq_false c7
   clear c7
   (first|rw [c7b0]|(simp only [i64_w,i32_w];rw [c7b0])|skip)
   by_cases c8:a1 > 4096
   ·
    rw [if_pos c8] at H
    have c8b0:decide (4096 < a1)=true:=decide_eq_true c8
    clear c8
    have H':=Aside0.mk H
    clear H
    go_wp2
    go_meet
    case rel=>exact ⟨_,(true),(by first|rfl|(simp;done)|(simp [*];done)),H',⟨by first|omega|exact Nat.le_refl _⟩,⟨by (with_reducible repeat (first|refine blk_drewN ?_ _|refine blk_drew ?_|refine blk_alloc ?_ _));exact BK541.out⟩,⟨by (with_reducible repeat (first|refine blk_drewN ?_ _|refine blk_drew ?_|refine blk_alloc ?_ _));exact BK542.out⟩,⟨by repeat (first|(with_reducible first|exact HB.out|apply below_alloc|apply pw_below_drewN|apply below_drew1|refine below_set ?_ GE541.out|refine below_set ?_ GE542.out)|exact HB.out)⟩⟩
   ·
    rw [if_neg c8] at H
    have c8b0:decide (4096 < a1)=false:=decide_eq_false c8
    clear c8
    by_cases c9:a2 < 0
    ·
     rw [if_pos c9] at H
     have c9b0:decide (a2 < 0)=true:=decide_eq_true c9
     clear c9
     have H':=Aside0.mk H
     clear H
     go_wp2
     go_meet
     case rel=>exact ⟨_,(true),(by first|rfl|(simp;done)|(simp [*];done)),H',⟨by first|omega|exact Nat.le_refl _⟩,⟨by (with_reducible repeat (first|refine blk_drewN ?_ _|refine blk_drew ?_|refine blk_alloc ?_ _));exact BK541.out⟩,⟨by (with_reducible repeat (first|refine blk_drewN ?_ _|refine blk_drew ?_|refine blk_alloc ?_ _));exact BK542.out⟩,⟨by repeat (first|(with_reducible first|exact HB.out|apply below_alloc|apply pw_below_drewN|apply below_drew1|refine below_set ?_ GE541.out|refine below_set ?_ GE542.out)|exact HB.out)⟩⟩
    ·
     rw [if_neg c9] at H
     have c9b0:decide (a2 < 0)=false:=decide_eq_false c9
     clear c9
     have H':=Aside0.mk H
     clear H
     go_wp2
     go_meet
     case rel=>exact ⟨_,(decide (a2 > a1)),(by first|rfl|(simp;done)|(simp [*];done)),H',⟨by first|omega|exact Nat.le_refl _⟩,⟨by (with_reducible repeat (first|refine blk_drewN ?_ _|refine blk_drew ?_|refine blk_alloc ?_ _));exact BK541.out⟩,⟨by (with_reducible repeat (first|refine blk_drewN ?_ _|refine blk_drew ?_|refine blk_alloc ?_ _));exact BK542.out⟩,⟨by repeat (first|(with_reducible first|exact HB.out|apply below_alloc|apply pw_below_drewN|apply below_drew1|refine below_set ?_ GE541.out|refine below_set ?_ GE542.out)|exact HB.out)⟩⟩
 case rest =>
  clear HC4
  try clear p2
  try clear c7
  try clear c7b0
  try clear c8
  try clear c8b0
  try clear c9
  try clear c9b0
  obtain ⟨kq,x28_3,rfl,HA,HJ3,BK541,BK542,HB⟩:=hcut
  cases kq with
  | zero=>exact absurd HA.out (by simp [mosaicref04_Gen_Pick.j0])
  | succ kj3 =>
   have H:=HA.out
   clear HA
   simp only [mosaicref04_Gen_Pick.j0] at H
   by_cases c10:x28_3=true
   ·
    subst c10
    have H1:(some (a0_0,a0_1,([]:List Int)))=some (r1,r2,r3):=by rw [if_pos rfl] at H;exact H
    clear H
    have H:=H1
    clear H1
    simp only [Option.some.injEq,Prod.mk.injEq] at H
    obtain ⟨rfl,rfl,rfl⟩:=H
    have hnb11:=NB541_542.out
    have hnc11:=NB542_541.out
    have hcz12_0:wc.cell? ⟨gb541,0,none⟩=some (.string a0_0):=(blk_cell BK541.out 0).trans rfl
    have hcz12_1:wc.cell? ⟨gb541,1,none⟩=some (.int .i64 a0_1):=(blk_cell BK541.out 1).trans rfl
    have hfz12_0:=blk_frozen BK541.out 0
    have hfz12_1:=blk_frozen BK541.out 1
    have hcz13_0:wc.cell? ⟨gb542,0,none⟩=some (.string (⟨#[]⟩:ByteArray)):=(blk_cell BK542.out 0).trans rfl
    have hcz13_1:wc.cell? ⟨gb542,1,none⟩=some (.int .i64 0):=(blk_cell BK542.out 1).trans rfl
    have hcz13_2:wc.cell? ⟨gb542,2,none⟩=some (.slice none 0 0):=(blk_cell BK542.out 2).trans rfl
    have hfz13_0:=blk_frozen BK542.out 0
    have hfz13_1:=blk_frozen BK542.out 1
    have hfz13_2:=blk_frozen BK542.out 2
    go_wp2
    refine bodyPost_ret (results_cell_row rfl _ _ gb542 94 #[.string a0_0,.int .i64 a0_1,.slice none 0 0] (0,0) _ rfl (by (with_reducible repeat (first|refine blk_drewN ?_ _|refine blk_drew ?_|refine blk_alloc ?_ _));refine blk_put (cs:=#[.string a0_0,.int .i64 a0_1,.slice none 0 0]) ?_ 2 _ rfl;(with_reducible repeat (first|refine blk_drewN ?_ _|refine blk_drew ?_|refine blk_alloc ?_ _));refine blk_put (cs:=#[.string a0_0,.int .i64 0,.slice none 0 0]) ?_ 1 _ rfl;(with_reducible repeat (first|refine blk_drewN ?_ _|refine blk_drew ?_|refine blk_alloc ?_ _));refine blk_put (cs:=#[.string (⟨#[]⟩:ByteArray),.int .i64 0,.slice none 0 0]) ?_ 0 _ rfl;(with_reducible repeat (first|refine blk_drewN ?_ _|refine blk_drew ?_|refine blk_alloc ?_ _));exact BK542.out) Try.underlying94 rfl (by kernel_rfl)) rfl ?_
    exact ⟨_,by first|rfl|(simp [errW_none,errW_some] <;> rfl)|(simp [*,errW_none,errW_some] <;> rfl),by first|exact Kd.R_nil _ _ _ _ _|exact Kd.N_nil _ _ _ _ _|exact Kd.V_nil _ _ _ _ _|exact Kd.Q_nil _ _ _ _ _|exact Kd.S_nil _ _ _ _ _,by repeat (first|(with_reducible first|exact HB.out|apply below_alloc|apply pw_below_drewN|apply below_drew1|refine below_set ?_ GE541.out|refine below_set ?_ GE542.out)|exact HB.out)⟩
   ·
    replace c10:=Bool.eq_false_iff.mpr c10
    subst c10
    have H1:(mosaicref04_Gen_Pick.l0 kj3 a1 a2 ([]:List Int) 0 a0_0 a0_1)=some (r1,r2,r3):=by rw [if_neg (show ¬ (false=true) by decide)] at H;exact H
    clear H
    have H:=H1
    clear H1
    have H':=Aside0.mk H
    clear H
    go_wp2
    go_loopg [7,8] kj3 (fun kq v7 v8 w'=>∃ (x7_2:List Int) (x8_2:Int),v8=.int .i64 x8_2∧Aside0 (mosaicref04_Gen_Pick.l0 kq a1 a2 x7_2 x8_2 a0_0 a0_1=some (r1,r2,r3))∧Aside0 (kq≤kj3)∧Aside0 (Kd.R (Kd.int .i64) 3 w' w.heap.size (fun _=>True) v7 x7_2)∧Aside0 (w'.heap[gb541]?=some (.cells #[.string a0_0,.int .i64 a0_1] 83 (0,0)))∧Aside0 (w'.heap[gb542]?=some (.cells #[.string (⟨#[]⟩:ByteArray),.int .i64 0,(.slice none 0 0)] 94 (0,0)))∧Aside0 (Below w.heap.size w w'))
    case atStart=>exact ⟨(([]:List Int)),(0),(by first|rfl|(simp;done)|(simp [*];done)),H',⟨Nat.le_refl _⟩,⟨by first|exact Kd.R_nil _ _ _ _ _|exact Kd.N_nil _ _ _ _ _|exact Kd.V_nil _ _ _ _ _|exact Kd.Q_nil _ _ _ _ _|exact Kd.S_nil _ _ _ _ _⟩,⟨by (with_reducible repeat (first|refine blk_drewN ?_ _|refine blk_drew ?_|refine blk_alloc ?_ _));exact BK541.out⟩,⟨by (with_reducible repeat (first|refine blk_drewN ?_ _|refine blk_drew ?_|refine blk_alloc ?_ _));exact BK542.out⟩,⟨by repeat (first|(with_reducible first|exact HB.out|apply below_alloc|apply pw_below_drewN|apply below_drew1|refine below_set ?_ GE541.out|refine below_set ?_ GE542.out)|exact HB.out)⟩⟩
    case round =>
     clear H'
     try clear c1
     try clear p2
     try clear c7
     try clear c7b0
     try clear c8
     try clear c8b0
     try clear c9
     try clear c9b0
     try clear c10
     try clear c11
     try clear hcz12_0
     try clear hcz12_1
     try clear hcz13_0
     try clear hcz13_1
     try clear hcz13_2
     try clear hfz12_0
     try clear hfz12_1
     try clear hfz13_0
     try clear hfz13_1
     try clear hfz13_2
     try clear p2
     obtain ⟨x7_2,x8_2,rfl,HA,HK2,HO_7,BK541,BK542,HB⟩:=hrel
     cases gk with
     | zero=>exact absurd HA.out (by simp [mosaicref04_Gen_Pick.l0])
     | succ k2 =>
      have H:=HA.out
      clear HA
      simp only [mosaicref04_Gen_Pick.l0] at H
      by_cases c14:x8_2 < a1
      ·
       rw [if_pos c14] at H
       have c14b0:decide (x8_2 < a1)=true:=decide_eq_true c14
       clear c14
       by_cases c15:x7_2.length < 17592186044416
       ·
        rw [if_pos c15] at H
        have LMc15:=Aside0.mk c15
        clear c15
        obtain ⟨y543,hy543⟩:∃ y_:List Int,y_=(x7_2 ++ [x8_2]):=⟨_,rfl⟩
        replace H:(mosaicref04_Gen_Pick.l0 k2 a1 a2 y543 (wrap64 (x8_2+1)) a0_0 a0_1)=some (r1,r2,r3):=by first|(rw [hy543];with_reducible exact H)|(have H2_:=(Option.bind_some _ _).symm.trans H;rw [hy543];with_reducible exact H2_)|(have H2_:=(Option.bind_some _ _).symm.trans H;with_reducible exact H2_)|with_reducible exact H|(rw [hy543];exact H)|exact H
        have Ny543:=Aside0.mk hy543
        clear hy543
        have H':=Aside0.mk H
        clear H
        go_wp2_with (first|((with_reducible refine gate_builtin (b:=.append) (xs:=#[.tmp 36,.tmp 38]) rfl ?_);at_builtin;refine Kd.R_append (Kd.int .i64) (w0:=w) w.heap.size rfl (.tmp 36) (.tmp 38) 77 3 (.int .i64 0) 8 rfl Try.underlying77 info3 rfl (by decide) (by omega) u7 x7_2 x8_2 [.int .i64 x8_2] (fun _=>True) (fun _=>False) rfl rfl ?aP (fun _ hk=>hk.elim) ?aF ?aO ?aB ?aS ?aL ?_;(case aP=>exact rfl);(case aB=>exact (by repeat (first|(with_reducible first|exact HB.out|apply below_alloc|apply pw_below_drewN|apply below_drew1|refine below_set ?_ GE541.out|refine below_set ?_ GE542.out)|exact HB.out)));(case aF=>exact (fun _ _=>trivial));(case aO=>exact (by (with_reducible repeat (first|apply Kd.R_alloc|apply Kd.R_drewN|apply Kd.R_drew));exact HO_7.out));(case aS=>exact (below_size (by repeat (first|(with_reducible first|exact HB.out|apply below_alloc|apply pw_below_drewN|apply below_drew1|refine below_set ?_ GE541.out|refine below_set ?_ GE542.out)|exact HB.out))));(case aL=>have:=LMc15.out;omega);intro v544 w16 ho hb hg hat;rw [← Ny543.out] at ho;have n0_:=Aside0.mk (blk_grown (g:=gb541) (o:=.cells #[.string a0_0,.int .i64 a0_1] 83 (0,0)) (by (with_reducible repeat (first|refine blk_drewN ?_ _|refine blk_drew ?_|refine blk_alloc ?_ _));exact BK541.out) hg (Kd.R_ne HO_7.out BK541.out (by decide)));have n1_:=Aside0.mk (blk_grown (g:=gb542) (o:=.cells #[.string (⟨#[]⟩:ByteArray),.int .i64 0,.slice none 0 0] 94 (0,0)) (by (with_reducible repeat (first|refine blk_drewN ?_ _|refine blk_drew ?_|refine blk_alloc ?_ _));exact BK542.out) hg (Kd.R_ne HO_7.out BK542.out (by decide)));have n2_:=Aside0.mk (hb);have n3_:=Aside0.mk (ho);clear BK541;clear BK542;clear HB;clear HO_7;have BK541:=n0_;have BK542:=n1_;have HB:=n2_;have HO545:=n3_;clear n0_ n1_ n2_ n3_;clear ho hb hg hat))
        go_roundg k2
        case measure=>have:=HJ3.out;have:=HK2.out;omega
        case rel=>exact ⟨(y543),(wrap64 (x8_2+1)),(by first|rfl|(simp;done)|(simp [*];done)),H',⟨by have:=HJ3.out;have:=HK2.out;omega⟩,⟨by (with_reducible repeat (first|apply Kd.R_alloc|apply Kd.R_drewN|apply Kd.R_drew));exact HO545.out⟩,⟨by (with_reducible repeat (first|refine blk_drewN ?_ _|refine blk_drew ?_|refine blk_alloc ?_ _));exact BK541.out⟩,⟨by (with_reducible repeat (first|refine blk_drewN ?_ _|refine blk_drew ?_|refine blk_alloc ?_ _));exact BK542.out⟩,⟨by repeat (first|(with_reducible first|exact HB.out|apply below_alloc|apply pw_below_drewN|apply below_drew1|refine below_set ?_ GE541.out|refine below_set ?_ GE542.out)|exact HB.out)⟩⟩
       ·
        rw [if_neg c15] at H
        exact absurd H (by simp)
      ·
       rw [if_neg c14] at H
       have c14b0:decide (x8_2 < a1)=false:=decide_eq_false c14
       clear c14
       have H':=Aside0.mk H
       clear H
       have hnb17:=NB541_542.out
       have hnc17:=NB542_541.out
       have hcz18_0:wr.cell? ⟨gb541,0,none⟩=some (.string a0_0):=(blk_cell BK541.out 0).trans rfl
       have hcz18_1:wr.cell? ⟨gb541,1,none⟩=some (.int .i64 a0_1):=(blk_cell BK541.out 1).trans rfl
       have hfz18_0:=blk_frozen BK541.out 0
       have hfz18_1:=blk_frozen BK541.out 1
       go_wp2_with (first|((with_reducible refine gate_dst (N:=9) rfl ?_);refine box_event ?hg (N:=9) ?hd (cs:=#[.string (⟨#[]⟩:ByteArray),.int .i64 0,.slice none 0 0]) (t:=94) ?hr ?_;(case hd=>rfl);(case hg=>rfl);(case hr=>first|(go_simp;done)|(go_simp;rfl));intro gb546 hg w19 hbox hb;have n0_:=Aside0.mk (Kd.R_below (by (with_reducible repeat (first|apply Kd.R_alloc|apply Kd.R_drewN|apply Kd.R_drew));exact HO_7.out) hb);have n1_:=Aside0.mk (blk_below (g:=gb541) (o:=.cells #[.string a0_0,.int .i64 a0_1] 83 (0,0)) (by (with_reducible repeat (first|refine blk_drewN ?_ _|refine blk_drew ?_|refine blk_alloc ?_ _));exact BK541.out) hb);have n2_:=Aside0.mk (blk_below (g:=gb542) (o:=.cells #[.string (⟨#[]⟩:ByteArray),.int .i64 0,.slice none 0 0] 94 (0,0)) (by (with_reducible repeat (first|refine blk_drewN ?_ _|refine blk_drew ?_|refine blk_alloc ?_ _));exact BK542.out) hb);have n3_:=Aside0.mk (below_step (by repeat (first|(with_reducible first|exact HB.out|apply below_alloc|apply pw_below_drewN|apply below_drew1|refine below_set ?_ GE541.out|refine below_set ?_ GE542.out)|exact HB.out)) hb);have n4_:=Aside0.mk (hbox);have n5_:=Aside0.mk ((by rw [hg];exact (below_size (by repeat (first|(with_reducible first|exact HB.out|apply below_alloc|apply pw_below_drewN|apply below_drew1|refine below_set ?_ GE541.out|refine below_set ?_ GE542.out)|exact HB.out))):w.heap.size≤gb546));have n6_:=Aside0.mk ((by rw [hg];exact (below_size (by repeat (first|(with_reducible first|exact HB.out|apply below_alloc|apply pw_below_drewN|apply below_drew1|refine below_set ?_ GE541.out|refine below_set ?_ GE542.out)|exact HB.out))):w.heap.size≤gb546));have n7_:=Aside0.mk ((by rw [hg];exact Nat.ne_of_lt (blk_lt (g:=gb541) (o:=.cells #[.string a0_0,.int .i64 a0_1] 83 (0,0)) (by (with_reducible repeat (first|refine blk_drewN ?_ _|refine blk_drew ?_|refine blk_alloc ?_ _));exact BK541.out)):gb541≠gb546));have n8_:=Aside0.mk ((by rw [hg];exact Nat.ne_of_gt (blk_lt (g:=gb541) (o:=.cells #[.string a0_0,.int .i64 a0_1] 83 (0,0)) (by (with_reducible repeat (first|refine blk_drewN ?_ _|refine blk_drew ?_|refine blk_alloc ?_ _));exact BK541.out)):gb546≠gb541));have n9_:=Aside0.mk ((by rw [hg];exact Nat.ne_of_lt (blk_lt (g:=gb542) (o:=.cells #[.string (⟨#[]⟩:ByteArray),.int .i64 0,.slice none 0 0] 94 (0,0)) (by (with_reducible repeat (first|refine blk_drewN ?_ _|refine blk_drew ?_|refine blk_alloc ?_ _));exact BK542.out)):gb542≠gb546));have n10_:=Aside0.mk ((by rw [hg];exact Nat.ne_of_gt (blk_lt (g:=gb542) (o:=.cells #[.string (⟨#[]⟩:ByteArray),.int .i64 0,.slice none 0 0] 94 (0,0)) (by (with_reducible repeat (first|refine blk_drewN ?_ _|refine blk_drew ?_|refine blk_alloc ?_ _));exact BK542.out)):gb546≠gb542));clear HO_7;clear BK541;clear BK542;clear HB;have HO_7:=n0_;have BK541:=n1_;have BK542:=n2_;have HB:=n3_;have BK546:=n4_;have GW546:=n5_;have GE546:=n6_;have NB541_546:=n7_;have NB546_541:=n8_;have NB542_546:=n9_;have NB546_542:=n10_;clear n0_ n1_ n2_ n3_ n4_ n5_ n6_ n7_ n8_ n9_ n10_;clear hb hbox hg;have hnb20:=NB546_541.out;have hnc20:=NB541_546.out;have hnb21:=NB546_542.out;have hnc21:=NB542_546.out;have hcz22_0:w19.cell? ⟨gb546,0,none⟩=some (.string (⟨#[]⟩:ByteArray)):=(blk_cell BK546.out 0).trans rfl;have hcz22_1:w19.cell? ⟨gb546,1,none⟩=some (.int .i64 0):=(blk_cell BK546.out 1).trans rfl;have hcz22_2:w19.cell? ⟨gb546,2,none⟩=some (.slice none 0 0):=(blk_cell BK546.out 2).trans rfl;have hfz22_0:=blk_frozen BK546.out 0;have hfz22_1:=blk_frozen BK546.out 1;have hfz22_2:=blk_frozen BK546.out 2))
       go_loopg [10] k2 (fun kq v10 w'=>∃ (x7_3:List Int) (x10_3:Int) (x547000_3:ByteArray) (x547001_3:Int) (x547002_3:List Int) (u547002:Value),v10=.int .i64 x10_3∧Aside0 (mosaicref04_Gen_Pick.l1 kq a1 a2 x7_3 x10_3 x547000_3 x547001_3 x547002_3=some (r1,r2,r3))∧Aside0 (kq≤k2)∧Aside0 (Kd.R (Kd.int .i64) 3 w' w.heap.size (fun k_=>some k_≠(u547002:Value).ownBlock) u7 x7_3)∧Aside0 (Kd.R (Kd.int .i64) 3 w' w.heap.size (fun k_=>some k_≠(u7:Value).ownBlock) u547002 x547002_3)∧Aside0 (w'.heap[gb541]?=some (.cells #[.string a0_0,.int .i64 a0_1] 83 (0,0)))∧Aside0 (w'.heap[gb542]?=some (.cells #[.string (⟨#[]⟩:ByteArray),.int .i64 0,(.slice none 0 0)] 94 (0,0)))∧Aside0 (w'.heap[gb546]?=some (.cells #[.string x547000_3,.int .i64 x547001_3,u547002] 94 (0,0)))∧Aside0 (Below w.heap.size w w'))
       case atStart=>exact ⟨(x7_2),(0),(a0_0),(a0_1),(([]:List Int)),(.slice none 0 0),(by first|rfl|(simp;done)|(simp [*];done)),H',⟨Nat.le_refl _⟩,⟨by (with_reducible repeat (first|apply Kd.R_alloc|apply Kd.R_drewN|apply Kd.R_drew));exact Kd.R_mono (Kd.R_far (p:=⟨gb546,2,none⟩) (Kd.R_far (p:=⟨gb546,1,none⟩) (Kd.R_far (p:=⟨gb546,0,none⟩) (Kd.R_types HO_7.out BK546.out (by decide)) (fun _ hk=>hk.2) (.string a0_0)) (fun _ hk=>hk.2) (.int .i64 a0_1)) (fun _ hk=>hk.2) (.slice none 0 0)) (fun _ hk=>(by simp [Value.ownBlock]))⟩,⟨by first|exact Kd.R_nil _ _ _ _ _|exact Kd.N_nil _ _ _ _ _|exact Kd.V_nil _ _ _ _ _|exact Kd.Q_nil _ _ _ _ _|exact Kd.S_nil _ _ _ _ _⟩,⟨by (with_reducible repeat (first|refine blk_drewN ?_ _|refine blk_drew ?_|refine blk_alloc ?_ _));refine blk_far ?_ NB541_546.out _;(with_reducible repeat (first|refine blk_drewN ?_ _|refine blk_drew ?_|refine blk_alloc ?_ _));refine blk_far ?_ NB541_546.out _;(with_reducible repeat (first|refine blk_drewN ?_ _|refine blk_drew ?_|refine blk_alloc ?_ _));refine blk_far ?_ NB541_546.out _;(with_reducible repeat (first|refine blk_drewN ?_ _|refine blk_drew ?_|refine blk_alloc ?_ _));exact BK541.out⟩,⟨by (with_reducible repeat (first|refine blk_drewN ?_ _|refine blk_drew ?_|refine blk_alloc ?_ _));refine blk_far ?_ NB542_546.out _;(with_reducible repeat (first|refine blk_drewN ?_ _|refine blk_drew ?_|refine blk_alloc ?_ _));refine blk_far ?_ NB542_546.out _;(with_reducible repeat (first|refine blk_drewN ?_ _|refine blk_drew ?_|refine blk_alloc ?_ _));refine blk_far ?_ NB542_546.out _;(with_reducible repeat (first|refine blk_drewN ?_ _|refine blk_drew ?_|refine blk_alloc ?_ _));exact BK542.out⟩,⟨by (with_reducible repeat (first|refine blk_drewN ?_ _|refine blk_drew ?_|refine blk_alloc ?_ _));refine blk_put (cs:=#[.string a0_0,.int .i64 a0_1,.slice none 0 0]) ?_ 2 _ rfl;(with_reducible repeat (first|refine blk_drewN ?_ _|refine blk_drew ?_|refine blk_alloc ?_ _));refine blk_put (cs:=#[.string a0_0,.int .i64 0,.slice none 0 0]) ?_ 1 _ rfl;(with_reducible repeat (first|refine blk_drewN ?_ _|refine blk_drew ?_|refine blk_alloc ?_ _));refine blk_put (cs:=#[.string (⟨#[]⟩:ByteArray),.int .i64 0,.slice none 0 0]) ?_ 0 _ rfl;(with_reducible repeat (first|refine blk_drewN ?_ _|refine blk_drew ?_|refine blk_alloc ?_ _));exact BK546.out⟩,⟨by repeat (first|(with_reducible first|exact HB.out|apply below_alloc|apply pw_below_drewN|apply below_drew1|refine below_set ?_ GE541.out|refine below_set ?_ GE542.out|refine below_set ?_ GE546.out)|exact HB.out)⟩⟩
       case round =>
        clear H'
        try clear c1
        try clear c2
        try clear p2
        try clear p6
        try clear c7
        try clear c7b0
        try clear c8
        try clear c8b0
        try clear c9
        try clear c9b0
        try clear c10
        try clear c11
        try clear c14
        try clear c14b0
        try clear c15
        try clear c17
        try clear c20
        try clear c21
        try clear hcz12_0
        try clear hcz12_1
        try clear hcz13_0
        try clear hcz13_1
        try clear hcz13_2
        try clear hcz18_0
        try clear hcz18_1
        try clear hcz22_0
        try clear hcz22_1
        try clear hcz22_2
        try clear hfz12_0
        try clear hfz12_1
        try clear hfz13_0
        try clear hfz13_1
        try clear hfz13_2
        try clear hfz18_0
        try clear hfz18_1
        try clear hfz22_0
        try clear hfz22_1
        try clear hfz22_2
        try clear p2
        obtain ⟨x7_3,x10_3,x547000_3,x547001_3,x547002_3,u547002,rfl,HA,HK3,HO_7,HO_547002,BK541,BK542,BK546,HB⟩:=hrel
        cases gk with
        | zero=>exact absurd HA.out (by simp [mosaicref04_Gen_Pick.l1])
        | succ k3 =>
         have H:=HA.out
         clear HA
         simp only [mosaicref04_Gen_Pick.l1] at H
         by_cases c23:x10_3 < a2
         ·
          rw [if_pos c23] at H
          have c23b0:decide (x10_3 < a2)=true:=decide_eq_true c23
          clear c23
          replace H:=Option.bind_eq_some_iff.mp H
          obtain ⟨⟨t547,t548,t549⟩,A240,H⟩:=H
          replace H:(if 0≤x10_3 then (if x10_3 < (x7_3.length:Int) then (if 0≤(wrap64 (x10_3+t549)) then (if (wrap64 (x10_3+t549)) < (x7_3.length:Int) then ((some ((x7_3.set (x10_3:Int).toNat (rd x7_3 (wrap64 (x10_3+t549)))).set ((wrap64 (x10_3+t549)):Int).toNat (rd x7_3 x10_3):List Int)).bind fun y554=>(if x547002_3.length < 17592186044416 then (mosaicref04_Gen_Pick.l1 k3 a1 a2 y554 (wrap64 (x10_3+1)) t547 t548 (x547002_3 ++ [rd y554 x10_3])) else (none))) else (none)) else (none)) else (none)) else (none))=some (r1,r2,r3):=H
          have A24:=Aside0.mk A240
          clear A240
          by_cases c25:0≤x10_3
          ·
           rw [if_pos c25] at H
           have c25b0:decide (0≤x10_3)=true:=decide_eq_true c25
           clear c25
           by_cases c26:x10_3 < (x7_3.length:Int)
           ·
            rw [if_pos c26] at H
            have c26b0:decide (x10_3 < (x7_3.length:Int))=true:=decide_eq_true c26
            clear c26
            obtain ⟨ji27,hji27⟩:∃ j_:Int,(wrap64 (x10_3+t549))=j_:=⟨_,rfl⟩
            replace H:(if 0≤(ji27) then (if (ji27) < (x7_3.length:Int) then ((some ((x7_3.set (x10_3:Int).toNat (rd x7_3 (ji27))).set ((ji27):Int).toNat (rd x7_3 x10_3):List Int)).bind fun y554=>(if x547002_3.length < 17592186044416 then (mosaicref04_Gen_Pick.l1 k3 a1 a2 y554 (wrap64 (x10_3+1)) t547 t548 (x547002_3 ++ [rd y554 x10_3])) else (none))) else (none)) else (none))=some (r1,r2,r3):=by first|(rw [hji27] at H;exact H)|(simp only [hji27] at H ⊢;exact H)
            (try rw [hji27] at A24)
            have hji27w:(IntKind.i64.wrap (x10_3+t549))=ji27:=(i64_w _).trans hji27
            by_cases c28:0≤(ji27)
            ·
             rw [if_pos c28] at H
             have c28b0:decide (0≤(ji27))=true:=decide_eq_true c28
             clear c28
             by_cases c29:(ji27) < (x7_3.length:Int)
             ·
              rw [if_pos c29] at H
              have c29b0:decide ((ji27) < (x7_3.length:Int))=true:=decide_eq_true c29
              clear c29
              obtain ⟨y553,hy553⟩:∃ y_:List Int,y_=(x7_3.set (x10_3:Int).toNat (rd x7_3 (ji27))):=⟨_,rfl⟩
              replace H:((some (y553.set ((ji27):Int).toNat (rd x7_3 x10_3):List Int)).bind fun y554=>(if x547002_3.length < 17592186044416 then (mosaicref04_Gen_Pick.l1 k3 a1 a2 y554 (wrap64 (x10_3+1)) t547 t548 (x547002_3 ++ [rd y554 x10_3])) else (none)))=some (r1,r2,r3):=by first|(rw [hy553];with_reducible exact H)|(have H2_:=(Option.bind_some _ _).symm.trans H;rw [hy553];with_reducible exact H2_)|(have H2_:=(Option.bind_some _ _).symm.trans H;with_reducible exact H2_)|with_reducible exact H|(rw [hy553];exact H)|exact H
              have Ny553:=Aside0.mk hy553
              clear hy553
              obtain ⟨y554,hy554⟩:∃ y_:List Int,y_=(y553.set ((ji27):Int).toNat (rd x7_3 x10_3)):=⟨_,rfl⟩
              replace H:(if x547002_3.length < 17592186044416 then (mosaicref04_Gen_Pick.l1 k3 a1 a2 y554 (wrap64 (x10_3+1)) t547 t548 (x547002_3 ++ [rd y554 x10_3])) else (none))=some (r1,r2,r3):=by first|(rw [hy554];with_reducible exact H)|(have H2_:=(Option.bind_some _ _).symm.trans H;rw [hy554];with_reducible exact H2_)|(have H2_:=(Option.bind_some _ _).symm.trans H;with_reducible exact H2_)|with_reducible exact H|(rw [hy554];exact H)|exact H
              have Ny554:=Aside0.mk hy554
              clear hy554
              by_cases c32:x547002_3.length < 17592186044416
              ·
               rw [if_pos c32] at H
               have LMc32:=Aside0.mk c32
               clear c32
               obtain ⟨y556,hy556⟩:∃ y_:List Int,y_=(x547002_3 ++ [rd y554 x10_3]):=⟨_,rfl⟩
               replace H:(mosaicref04_Gen_Pick.l1 k3 a1 a2 y554 (wrap64 (x10_3+1)) t547 t548 y556)=some (r1,r2,r3):=by first|(rw [hy556];with_reducible exact H)|(have H2_:=(Option.bind_some _ _).symm.trans H;rw [hy556];with_reducible exact H2_)|(have H2_:=(Option.bind_some _ _).symm.trans H;with_reducible exact H2_)|with_reducible exact H|(rw [hy556];exact H)|exact H
               have Ny556:=Aside0.mk hy556
               clear hy556
               have H':=Aside0.mk H
               clear H
               have hnb33:=NB546_541.out
               have hnc33:=NB541_546.out
               have hnb34:=NB546_542.out
               have hnc34:=NB542_546.out
               have hcz35_0:wr.cell? ⟨gb546,0,none⟩=some (.string x547000_3):=(blk_cell BK546.out 0).trans rfl
               have hcz35_1:wr.cell? ⟨gb546,1,none⟩=some (.int .i64 x547001_3):=(blk_cell BK546.out 1).trans rfl
               have hcz35_2:wr.cell? ⟨gb546,2,none⟩=some (u547002):=(blk_cell BK546.out 2).trans rfl
               have hfz35_0:=blk_frozen BK546.out 0
               have hfz35_1:=blk_frozen BK546.out 1
               have hfz35_2:=blk_frozen BK546.out 2
               try go_wp2_with (first|((with_reducible refine gate_callee (f:=69) rfl ?_);refine goesL_ (some 52) rfl rfl Try.func69 (by kernel_rfl) rfl #[.agg #[.string x547000_3,.int .i64 x547001_3],.int .i64 (wrap64 (a1 - x10_3))] rfl (by (try simp only [List.map_toArray,List.map_cons,List.map_nil]);first|done|rfl|(simp only [List.length_drop,List.length_take];rfl)) ?_;(with_reducible refine (mosaicref04_Gen_Below.calls k3 x547000_3 x547001_3 (wrap64 (a1 - x10_3)) t547 t548 t549 _ A24.out).mono ?_);rintro e w36 ⟨rfl,hb⟩;refine ⟨_,rfl,?_⟩;have n0_:=Aside0.mk (Kd.R_below (by (with_reducible repeat (first|apply Kd.R_alloc|apply Kd.R_drewN|apply Kd.R_drew));exact HO_7.out) hb);have n1_:=Aside0.mk (Kd.R_below (by (with_reducible repeat (first|apply Kd.R_alloc|apply Kd.R_drewN|apply Kd.R_drew));exact HO_547002.out) hb);have n2_:=Aside0.mk (blk_below (g:=gb541) (o:=.cells #[.string a0_0,.int .i64 a0_1] 83 (0,0)) (by (with_reducible repeat (first|refine blk_drewN ?_ _|refine blk_drew ?_|refine blk_alloc ?_ _));exact BK541.out) hb);have n3_:=Aside0.mk (blk_below (g:=gb542) (o:=.cells #[.string (⟨#[]⟩:ByteArray),.int .i64 0,.slice none 0 0] 94 (0,0)) (by (with_reducible repeat (first|refine blk_drewN ?_ _|refine blk_drew ?_|refine blk_alloc ?_ _));exact BK542.out) hb);have n4_:=Aside0.mk (blk_below (g:=gb546) (o:=.cells #[.string x547000_3,.int .i64 x547001_3,u547002] 94 (0,0)) (by (with_reducible repeat (first|refine blk_drewN ?_ _|refine blk_drew ?_|refine blk_alloc ?_ _));exact BK546.out) hb);have n5_:=Aside0.mk (below_step (by repeat (first|(with_reducible first|exact HB.out|apply below_alloc|apply pw_below_drewN|apply below_drew1|refine below_set ?_ GE541.out|refine below_set ?_ GE542.out|refine below_set ?_ GE546.out)|exact HB.out)) hb);clear HO_7;clear HO_547002;clear BK541;clear BK542;clear BK546;clear HB;have HO_7:=n0_;have HO_547002:=n1_;have BK541:=n2_;have BK542:=n3_;have BK546:=n4_;have HB:=n5_;clear n0_ n1_ n2_ n3_ n4_ n5_;(try clear hb);(try clear hb2);(try clear hk);(try clear hi))|((with_reducible refine gate_dst (N:=11) rfl ?_);refine box_event ?hg (N:=11) ?hd (cs:=#[.string (⟨#[]⟩:ByteArray),.int .i64 0,.int .i64 0]) (t:=85) ?hr ?_;(case hd=>rfl);(case hg=>rfl);(case hr=>first|(go_simp;done)|(go_simp;rfl));intro gb550 hg w37 hbox hb;have n0_:=Aside0.mk (Kd.R_below (by (with_reducible repeat (first|apply Kd.R_alloc|apply Kd.R_drewN|apply Kd.R_drew));exact HO_7.out) hb);have n1_:=Aside0.mk (Kd.R_below (by (with_reducible repeat (first|apply Kd.R_alloc|apply Kd.R_drewN|apply Kd.R_drew));exact HO_547002.out) hb);have n2_:=Aside0.mk (blk_below (g:=gb541) (o:=.cells #[.string a0_0,.int .i64 a0_1] 83 (0,0)) (by (with_reducible repeat (first|refine blk_drewN ?_ _|refine blk_drew ?_|refine blk_alloc ?_ _));exact BK541.out) hb);have n3_:=Aside0.mk (blk_below (g:=gb542) (o:=.cells #[.string (⟨#[]⟩:ByteArray),.int .i64 0,.slice none 0 0] 94 (0,0)) (by (with_reducible repeat (first|refine blk_drewN ?_ _|refine blk_drew ?_|refine blk_alloc ?_ _));exact BK542.out) hb);have n4_:=Aside0.mk (blk_below (g:=gb546) (o:=.cells #[.string x547000_3,.int .i64 x547001_3,u547002] 94 (0,0)) (by (with_reducible repeat (first|refine blk_drewN ?_ _|refine blk_drew ?_|refine blk_alloc ?_ _));exact BK546.out) hb);have n5_:=Aside0.mk (below_step (by repeat (first|(with_reducible first|exact HB.out|apply below_alloc|apply pw_below_drewN|apply below_drew1|refine below_set ?_ GE541.out|refine below_set ?_ GE542.out|refine below_set ?_ GE546.out)|exact HB.out)) hb);have n6_:=Aside0.mk (hbox);have n7_:=Aside0.mk ((by rw [hg];exact (below_size (by repeat (first|(with_reducible first|exact HB.out|apply below_alloc|apply pw_below_drewN|apply below_drew1|refine below_set ?_ GE541.out|refine below_set ?_ GE542.out|refine below_set ?_ GE546.out)|exact HB.out))):w.heap.size≤gb550));have n8_:=Aside0.mk ((by rw [hg];exact (below_size (by repeat (first|(with_reducible first|exact HB.out|apply below_alloc|apply pw_below_drewN|apply below_drew1|refine below_set ?_ GE541.out|refine below_set ?_ GE542.out|refine below_set ?_ GE546.out)|exact HB.out))):w.heap.size≤gb550));have n9_:=Aside0.mk ((by rw [hg];exact Nat.ne_of_lt (blk_lt (g:=gb541) (o:=.cells #[.string a0_0,.int .i64 a0_1] 83 (0,0)) (by (with_reducible repeat (first|refine blk_drewN ?_ _|refine blk_drew ?_|refine blk_alloc ?_ _));exact BK541.out)):gb541≠gb550));have n10_:=Aside0.mk ((by rw [hg];exact Nat.ne_of_gt (blk_lt (g:=gb541) (o:=.cells #[.string a0_0,.int .i64 a0_1] 83 (0,0)) (by (with_reducible repeat (first|refine blk_drewN ?_ _|refine blk_drew ?_|refine blk_alloc ?_ _));exact BK541.out)):gb550≠gb541));have n11_:=Aside0.mk ((by rw [hg];exact Nat.ne_of_lt (blk_lt (g:=gb542) (o:=.cells #[.string (⟨#[]⟩:ByteArray),.int .i64 0,.slice none 0 0] 94 (0,0)) (by (with_reducible repeat (first|refine blk_drewN ?_ _|refine blk_drew ?_|refine blk_alloc ?_ _));exact BK542.out)):gb542≠gb550));have n12_:=Aside0.mk ((by rw [hg];exact Nat.ne_of_gt (blk_lt (g:=gb542) (o:=.cells #[.string (⟨#[]⟩:ByteArray),.int .i64 0,.slice none 0 0] 94 (0,0)) (by (with_reducible repeat (first|refine blk_drewN ?_ _|refine blk_drew ?_|refine blk_alloc ?_ _));exact BK542.out)):gb550≠gb542));have n13_:=Aside0.mk ((by rw [hg];exact Nat.ne_of_lt (blk_lt (g:=gb546) (o:=.cells #[.string x547000_3,.int .i64 x547001_3,u547002] 94 (0,0)) (by (with_reducible repeat (first|refine blk_drewN ?_ _|refine blk_drew ?_|refine blk_alloc ?_ _));exact BK546.out)):gb546≠gb550));have n14_:=Aside0.mk ((by rw [hg];exact Nat.ne_of_gt (blk_lt (g:=gb546) (o:=.cells #[.string x547000_3,.int .i64 x547001_3,u547002] 94 (0,0)) (by (with_reducible repeat (first|refine blk_drewN ?_ _|refine blk_drew ?_|refine blk_alloc ?_ _));exact BK546.out)):gb550≠gb546));clear HO_7;clear HO_547002;clear BK541;clear BK542;clear BK546;clear HB;have HO_7:=n0_;have HO_547002:=n1_;have BK541:=n2_;have BK542:=n3_;have BK546:=n4_;have HB:=n5_;have BK550:=n6_;have GW550:=n7_;have GE550:=n8_;have NB541_550:=n9_;have NB550_541:=n10_;have NB542_550:=n11_;have NB550_542:=n12_;have NB546_550:=n13_;have NB550_546:=n14_;clear n0_ n1_ n2_ n3_ n4_ n5_ n6_ n7_ n8_ n9_ n10_ n11_ n12_ n13_ n14_;clear hb hbox hg;have hnb38:=NB550_541.out;have hnc38:=NB541_550.out;have hnb39:=NB550_542.out;have hnc39:=NB542_550.out;have hnb40:=NB550_546.out;have hnc40:=NB546_550.out;have hcz41_0:w37.cell? ⟨gb550,0,none⟩=some (.string (⟨#[]⟩:ByteArray)):=(blk_cell BK550.out 0).trans rfl;have hcz41_1:w37.cell? ⟨gb550,1,none⟩=some (.int .i64 0):=(blk_cell BK550.out 1).trans rfl;have hcz41_2:w37.cell? ⟨gb550,2,none⟩=some (.int .i64 0):=(blk_cell BK550.out 2).trans rfl;have hfz41_0:=blk_frozen BK550.out 0;have hfz41_1:=blk_frozen BK550.out 1;have hfz41_2:=blk_frozen BK550.out 2)|((with_reducible refine gate_store (t:=85) (p:=11) rfl ?_);refine store_event (t:=85) (p:=11) (v:=?vo_w42) (w1:=(((w37.setCell ⟨gb550,0,none⟩ (.string t547)).setCell ⟨gb550,1,none⟩ (.int .i64 t548)).setCell ⟨gb550,2,none⟩ (.int .i64 t549))) ?hg ?ho ?hn ?hr ?_;(case ho=>rfl);(case hg=>rfl);(case hn=>rfl);(case hr=>first|(go_simp;done)|(go_simp;rfl));intro w42 hw;have n0_:Aside0 (Kd.R (Kd.int .i64) 3 w42 w.heap.size (fun k_=>some k_≠(u547002:Value).ownBlock) u7 x7_3):=⟨(by rw [hw];exact (by (with_reducible repeat (first|apply Kd.R_alloc|apply Kd.R_drewN|apply Kd.R_drew));exact Kd.R_mono (Kd.R_far (p:=⟨gb550,2,none⟩) (Kd.R_far (p:=⟨gb550,1,none⟩) (Kd.R_far (p:=⟨gb550,0,none⟩) (Kd.R_types HO_7.out BK550.out (by decide)) (fun _ hk=>hk.2) (.string t547)) (fun _ hk=>hk.2) (.int .i64 t548)) (fun _ hk=>hk.2) (.int .i64 t549)) (fun _ hk=>hk.1)))⟩;have n1_:Aside0 (Kd.R (Kd.int .i64) 3 w42 w.heap.size (fun k_=>some k_≠(u7:Value).ownBlock) u547002 x547002_3):=⟨(by rw [hw];exact (by (with_reducible repeat (first|apply Kd.R_alloc|apply Kd.R_drewN|apply Kd.R_drew));exact Kd.R_mono (Kd.R_far (p:=⟨gb550,2,none⟩) (Kd.R_far (p:=⟨gb550,1,none⟩) (Kd.R_far (p:=⟨gb550,0,none⟩) (Kd.R_types HO_547002.out BK550.out (by decide)) (fun _ hk=>hk.2) (.string t547)) (fun _ hk=>hk.2) (.int .i64 t548)) (fun _ hk=>hk.2) (.int .i64 t549)) (fun _ hk=>hk.1)))⟩;have n2_:Aside0 (w42.heap[gb541]?=some (.cells #[.string a0_0,.int .i64 a0_1] 83 (0,0))):=⟨(by rw [hw];exact (by (with_reducible repeat (first|refine blk_drewN ?_ _|refine blk_drew ?_|refine blk_alloc ?_ _));refine blk_far ?_ NB541_550.out _;(with_reducible repeat (first|refine blk_drewN ?_ _|refine blk_drew ?_|refine blk_alloc ?_ _));refine blk_far ?_ NB541_550.out _;(with_reducible repeat (first|refine blk_drewN ?_ _|refine blk_drew ?_|refine blk_alloc ?_ _));refine blk_far ?_ NB541_550.out _;(with_reducible repeat (first|refine blk_drewN ?_ _|refine blk_drew ?_|refine blk_alloc ?_ _));exact BK541.out))⟩;have n3_:Aside0 (w42.heap[gb542]?=some (.cells #[.string (⟨#[]⟩:ByteArray),.int .i64 0,.slice none 0 0] 94 (0,0))):=⟨(by rw [hw];exact (by (with_reducible repeat (first|refine blk_drewN ?_ _|refine blk_drew ?_|refine blk_alloc ?_ _));refine blk_far ?_ NB542_550.out _;(with_reducible repeat (first|refine blk_drewN ?_ _|refine blk_drew ?_|refine blk_alloc ?_ _));refine blk_far ?_ NB542_550.out _;(with_reducible repeat (first|refine blk_drewN ?_ _|refine blk_drew ?_|refine blk_alloc ?_ _));refine blk_far ?_ NB542_550.out _;(with_reducible repeat (first|refine blk_drewN ?_ _|refine blk_drew ?_|refine blk_alloc ?_ _));exact BK542.out))⟩;have n4_:Aside0 (w42.heap[gb546]?=some (.cells #[.string x547000_3,.int .i64 x547001_3,u547002] 94 (0,0))):=⟨(by rw [hw];exact (by (with_reducible repeat (first|refine blk_drewN ?_ _|refine blk_drew ?_|refine blk_alloc ?_ _));refine blk_far ?_ NB546_550.out _;(with_reducible repeat (first|refine blk_drewN ?_ _|refine blk_drew ?_|refine blk_alloc ?_ _));refine blk_far ?_ NB546_550.out _;(with_reducible repeat (first|refine blk_drewN ?_ _|refine blk_drew ?_|refine blk_alloc ?_ _));refine blk_far ?_ NB546_550.out _;(with_reducible repeat (first|refine blk_drewN ?_ _|refine blk_drew ?_|refine blk_alloc ?_ _));exact BK546.out))⟩;have n5_:Aside0 (w42.heap[gb550]?=some (.cells #[.string t547,.int .i64 t548,.int .i64 t549] 85 (0,0))):=⟨(by rw [hw];exact (by (with_reducible repeat (first|refine blk_drewN ?_ _|refine blk_drew ?_|refine blk_alloc ?_ _));refine blk_put (cs:=#[.string t547,.int .i64 t548,.int .i64 0]) ?_ 2 _ rfl;(with_reducible repeat (first|refine blk_drewN ?_ _|refine blk_drew ?_|refine blk_alloc ?_ _));refine blk_put (cs:=#[.string t547,.int .i64 0,.int .i64 0]) ?_ 1 _ rfl;(with_reducible repeat (first|refine blk_drewN ?_ _|refine blk_drew ?_|refine blk_alloc ?_ _));refine blk_put (cs:=#[.string (⟨#[]⟩:ByteArray),.int .i64 0,.int .i64 0]) ?_ 0 _ rfl;(with_reducible repeat (first|refine blk_drewN ?_ _|refine blk_drew ?_|refine blk_alloc ?_ _));exact BK550.out))⟩;have n6_:Aside0 (Below w.heap.size w w42):=⟨(by rw [hw];exact (by repeat (first|(with_reducible first|exact HB.out|apply below_alloc|apply pw_below_drewN|apply below_drew1|refine below_set ?_ GE541.out|refine below_set ?_ GE542.out|refine below_set ?_ GE546.out|refine below_set ?_ GE550.out)|exact HB.out)))⟩;clear hw;clear HO_7;clear HO_547002;clear BK541;clear BK542;clear BK546;clear BK550;clear HB;have HO_7:=n0_;have HO_547002:=n1_;have BK541:=n2_;have BK542:=n3_;have BK546:=n4_;have BK550:=n5_;have HB:=n6_;clear n0_ n1_ n2_ n3_ n4_ n5_ n6_;have hcz43_0:w42.cell? ⟨gb550,0,none⟩=some (.string t547):=(blk_cell BK550.out 0).trans rfl;have hcz43_1:w42.cell? ⟨gb550,1,none⟩=some (.int .i64 t548):=(blk_cell BK550.out 1).trans rfl;have hcz43_2:w42.cell? ⟨gb550,2,none⟩=some (.int .i64 t549):=(blk_cell BK550.out 2).trans rfl;have hfz43_0:=blk_frozen BK550.out 0;have hfz43_1:=blk_frozen BK550.out 1;have hfz43_2:=blk_frozen BK550.out 2;have hcz44_0:w42.cell? ⟨gb546,0,none⟩=some (.string x547000_3):=(blk_cell BK546.out 0).trans rfl;have hcz44_1:w42.cell? ⟨gb546,1,none⟩=some (.int .i64 x547001_3):=(blk_cell BK546.out 1).trans rfl;have hcz44_2:w42.cell? ⟨gb546,2,none⟩=some (u547002):=(blk_cell BK546.out 2).trans rfl;have hfz44_0:=blk_frozen BK546.out 0;have hfz44_1:=blk_frozen BK546.out 1;have hfz44_2:=blk_frozen BK546.out 2)|((with_reducible refine gate_store (t:=83) (p:=55) rfl ?_);refine store_event (t:=83) (p:=55) (v:=?vo_w45) (w1:=((w42.setCell ⟨gb546,0,none⟩ (.string t547)).setCell ⟨gb546,1,none⟩ (.int .i64 t548))) ?hg ?ho ?hn ?hr ?_;(case ho=>rfl);(case hg=>rfl);(case hn=>rfl);(case hr=>first|(go_simp;done)|(go_simp;rfl));intro w45 hw;have n0_:Aside0 (Kd.R (Kd.int .i64) 3 w45 w.heap.size (fun k_=>some k_≠(u547002:Value).ownBlock) u7 x7_3):=⟨(by rw [hw];exact (by (with_reducible repeat (first|apply Kd.R_alloc|apply Kd.R_drewN|apply Kd.R_drew));exact Kd.R_mono (Kd.R_far (p:=⟨gb546,1,none⟩) (Kd.R_far (p:=⟨gb546,0,none⟩) (Kd.R_types HO_7.out BK546.out (by decide)) (fun _ hk=>hk.2) (.string t547)) (fun _ hk=>hk.2) (.int .i64 t548)) (fun _ hk=>hk.1)))⟩;have n1_:Aside0 (Kd.R (Kd.int .i64) 3 w45 w.heap.size (fun k_=>some k_≠(u7:Value).ownBlock) u547002 x547002_3):=⟨(by rw [hw];exact (by (with_reducible repeat (first|apply Kd.R_alloc|apply Kd.R_drewN|apply Kd.R_drew));exact Kd.R_mono (Kd.R_far (p:=⟨gb546,1,none⟩) (Kd.R_far (p:=⟨gb546,0,none⟩) (Kd.R_types HO_547002.out BK546.out (by decide)) (fun _ hk=>hk.2) (.string t547)) (fun _ hk=>hk.2) (.int .i64 t548)) (fun _ hk=>hk.1)))⟩;have n2_:Aside0 (w45.heap[gb541]?=some (.cells #[.string a0_0,.int .i64 a0_1] 83 (0,0))):=⟨(by rw [hw];exact (by (with_reducible repeat (first|refine blk_drewN ?_ _|refine blk_drew ?_|refine blk_alloc ?_ _));refine blk_far ?_ NB541_546.out _;(with_reducible repeat (first|refine blk_drewN ?_ _|refine blk_drew ?_|refine blk_alloc ?_ _));refine blk_far ?_ NB541_546.out _;(with_reducible repeat (first|refine blk_drewN ?_ _|refine blk_drew ?_|refine blk_alloc ?_ _));exact BK541.out))⟩;have n3_:Aside0 (w45.heap[gb542]?=some (.cells #[.string (⟨#[]⟩:ByteArray),.int .i64 0,.slice none 0 0] 94 (0,0))):=⟨(by rw [hw];exact (by (with_reducible repeat (first|refine blk_drewN ?_ _|refine blk_drew ?_|refine blk_alloc ?_ _));refine blk_far ?_ NB542_546.out _;(with_reducible repeat (first|refine blk_drewN ?_ _|refine blk_drew ?_|refine blk_alloc ?_ _));refine blk_far ?_ NB542_546.out _;(with_reducible repeat (first|refine blk_drewN ?_ _|refine blk_drew ?_|refine blk_alloc ?_ _));exact BK542.out))⟩;have n4_:Aside0 (w45.heap[gb546]?=some (.cells #[.string t547,.int .i64 t548,u547002] 94 (0,0))):=⟨(by rw [hw];exact (by (with_reducible repeat (first|refine blk_drewN ?_ _|refine blk_drew ?_|refine blk_alloc ?_ _));refine blk_put (cs:=#[.string t547,.int .i64 x547001_3,u547002]) ?_ 1 _ rfl;(with_reducible repeat (first|refine blk_drewN ?_ _|refine blk_drew ?_|refine blk_alloc ?_ _));refine blk_put (cs:=#[.string x547000_3,.int .i64 x547001_3,u547002]) ?_ 0 _ rfl;(with_reducible repeat (first|refine blk_drewN ?_ _|refine blk_drew ?_|refine blk_alloc ?_ _));exact BK546.out))⟩;have n5_:Aside0 (w45.heap[gb550]?=some (.cells #[.string t547,.int .i64 t548,.int .i64 t549] 85 (0,0))):=⟨(by rw [hw];exact (by (with_reducible repeat (first|refine blk_drewN ?_ _|refine blk_drew ?_|refine blk_alloc ?_ _));refine blk_far ?_ NB550_546.out _;(with_reducible repeat (first|refine blk_drewN ?_ _|refine blk_drew ?_|refine blk_alloc ?_ _));refine blk_far ?_ NB550_546.out _;(with_reducible repeat (first|refine blk_drewN ?_ _|refine blk_drew ?_|refine blk_alloc ?_ _));exact BK550.out))⟩;have n6_:Aside0 (Below w.heap.size w w45):=⟨(by rw [hw];exact (by repeat (first|(with_reducible first|exact HB.out|apply below_alloc|apply pw_below_drewN|apply below_drew1|refine below_set ?_ GE541.out|refine below_set ?_ GE542.out|refine below_set ?_ GE546.out|refine below_set ?_ GE550.out)|exact HB.out)))⟩;clear hw;clear HO_7;clear HO_547002;clear BK541;clear BK542;clear BK546;clear BK550;clear HB;have HO_7:=n0_;have HO_547002:=n1_;have BK541:=n2_;have BK542:=n3_;have BK546:=n4_;have BK550:=n5_;have HB:=n6_;clear n0_ n1_ n2_ n3_ n4_ n5_ n6_;have hcz46_0:w45.cell? ⟨gb550,0,none⟩=some (.string t547):=(blk_cell BK550.out 0).trans rfl;have hcz46_1:w45.cell? ⟨gb550,1,none⟩=some (.int .i64 t548):=(blk_cell BK550.out 1).trans rfl;have hcz46_2:w45.cell? ⟨gb550,2,none⟩=some (.int .i64 t549):=(blk_cell BK550.out 2).trans rfl;have hfz46_0:=blk_frozen BK550.out 0;have hfz46_1:=blk_frozen BK550.out 1;have hfz46_2:=blk_frozen BK550.out 2;obtain ⟨Ao47,co47,eo47⟩:=Kd.R_slice HO_7.out;subst eo47;have p551:0≤(x10_3:Int):=of_decide_eq_true (by first|(with_reducible assumption)|assumption);have q551:x10_3 < (x7_3.length:Int):=of_decide_eq_true (by first|(with_reducible assumption)|assumption);obtain ⟨ad551,e551,hx551_0⟩:=Kd.at_int (Kd.R_reads' HO_7.out).2.2 x10_3 p551 q551;cases e551;replace p551:=eq_true p551;replace q551:=eq_true q551;have p552:0≤((ji27):Int):=of_decide_eq_true (by first|(with_reducible assumption)|assumption);have q552:(ji27) < (x7_3.length:Int):=of_decide_eq_true (by first|(with_reducible assumption)|assumption);obtain ⟨ad552,e552,hx552_0⟩:=Kd.at_int (Kd.R_reads' HO_7.out).2.2 (ji27) p552 q552;obtain rfl:ad551=ad552:=(by injection e552);replace p552:=eq_true p552;replace q552:=eq_true q552;have p30:0≤(x10_3:Int):=of_decide_eq_true (by first|(with_reducible assumption)|assumption);have q30:(x10_3:Int) < ((x7_3.length:Int):Int):=of_decide_eq_true (by first|(with_reducible assumption)|assumption);obtain ⟨go30,co30,eo30,gb30,gl30,cl30,HG30⟩:=Kd.R_form HO_7.out (by omega);(first|cases eo30|(injection eo30 with ea_ en_ ec_;(first|subst ea_|(injection ea_ with ea_;subst ea_));subst ec_;clear en_));have GB30:=Aside0.mk gb30;have GG30:=Aside0.mk HG30;clear gb30 gl30 HG30;(first|simp only [add_plain] at hx551_0|skip);(first|simp only [add_plain] at hx552_0|skip);obtain ⟨hx30_0,hf30_0⟩:=Kd.R_celln 0 HO_7.out (x10_3:Int) p30 q30;replace p30:=eq_true p30;replace q30:=eq_true q30;obtain ⟨hy48_,hz48_⟩:=Kd.R_celln 0 HO_7.out (x10_3:Int) (of_decide_eq_true (by first|(with_reducible assumption)|assumption)) (of_decide_eq_true (by first|(with_reducible assumption)|assumption));have HP48:=Kd.R_putg HO_7.out (x10_3:Int) (rd x7_3 (ji27)))|((with_reducible refine gate_store (t:=3) (p:=70) rfl ?_);refine store_event (t:=3) (p:=70) (v:=?vo_w49) (w1:=(w45.setCell ⟨go30,(x10_3:Int).toNat,none⟩ (.int .i64 (rd x7_3 (ji27))))) ?hg ?ho ?hn ?hr ?_;(case ho=>rfl);(case hg=>rfl);(case hn=>rfl);(case hr=>first|(go_simp;done)|(go_simp;rfl));intro w49 hw;have hg:w45.grownBy w49 (some go30):=(by rw [hw];exact HP48.2);have hp_:Kd.R (Kd.int .i64) 3 w49 w.heap.size (fun k_=>some k_≠(u547002:Value).ownBlock) (.slice (some ⟨go30,0,none⟩) x7_3.length co47) y553:=(by rw [hw,Ny553.out];exact HP48.1);clear HP48;have n0_:=Aside0.mk (hp_);have n1_:=Aside0.mk (Kd.R_after (v:=(.slice (some ⟨go30,0,none⟩) x7_3.length co47)) (v1:=(.slice (some ⟨go30,0,none⟩) x7_3.length co47)) (ok:=(fun _=>True)) (by (with_reducible repeat (first|apply Kd.R_alloc|apply Kd.R_drewN|apply Kd.R_drew));exact Kd.R_mono HO_547002.out (fun _ hk=>⟨trivial,hk⟩)) hg (.inl rfl));have n2_:=Aside0.mk (blk_grown (g:=gb541) (o:=.cells #[.string a0_0,.int .i64 a0_1] 83 (0,0)) (by (with_reducible repeat (first|refine blk_drewN ?_ _|refine blk_drew ?_|refine blk_alloc ?_ _));exact BK541.out) hg (Kd.R_ne HO_7.out BK541.out (by decide)));have n3_:=Aside0.mk (blk_grown (g:=gb542) (o:=.cells #[.string (⟨#[]⟩:ByteArray),.int .i64 0,.slice none 0 0] 94 (0,0)) (by (with_reducible repeat (first|refine blk_drewN ?_ _|refine blk_drew ?_|refine blk_alloc ?_ _));exact BK542.out) hg (Kd.R_ne HO_7.out BK542.out (by decide)));have n4_:=Aside0.mk (blk_grown (g:=gb546) (o:=.cells #[.string t547,.int .i64 t548,u547002] 94 (0,0)) (by (with_reducible repeat (first|refine blk_drewN ?_ _|refine blk_drew ?_|refine blk_alloc ?_ _));exact BK546.out) hg (Kd.R_ne HO_7.out BK546.out (by decide)));have n5_:=Aside0.mk (blk_grown (g:=gb550) (o:=.cells #[.string t547,.int .i64 t548,.int .i64 t549] 85 (0,0)) (by (with_reducible repeat (first|refine blk_drewN ?_ _|refine blk_drew ?_|refine blk_alloc ?_ _));exact BK550.out) hg (Kd.R_ne HO_7.out BK550.out (by decide)));have n6_:=Aside0.mk ((by rw [hw];exact below_set (HB.out) GB30.out:Below w.heap.size w w49));clear HO_7;clear HO_547002;clear BK541;clear BK542;clear BK546;clear BK550;clear HB;have HO_7:=n0_;have HO_547002:=n1_;have BK541:=n2_;have BK542:=n3_;have BK546:=n4_;have BK550:=n5_;have HB:=n6_;clear n0_ n1_ n2_ n3_ n4_ n5_ n6_;clear hg hw hp_;have p31:0≤((ji27):Int):=of_decide_eq_true (by first|(with_reducible assumption)|assumption);have q31:((ji27):Int) < ((x7_3.length:Int):Int):=of_decide_eq_true (by first|(with_reducible assumption)|assumption);obtain ⟨hx31_0,hf31_0⟩:=Kd.R_celln 0 HO_7.out ((ji27):Int) p31 q31;replace p31:=eq_true p31;replace q31:=eq_true q31;obtain ⟨hy50_,hz50_⟩:=Kd.R_celln 0 HO_7.out ((ji27):Int) (of_decide_eq_true (by first|(with_reducible assumption)|assumption)) (of_decide_eq_true (by first|(with_reducible assumption)|assumption));have HP50:=Kd.R_putg HO_7.out ((ji27):Int) (rd x7_3 x10_3))|((with_reducible refine gate_store (t:=3) (p:=74) rfl ?_);refine store_event (t:=3) (p:=74) (v:=?vo_w51) (w1:=(w49.setCell ⟨go30,((ji27):Int).toNat,none⟩ (.int .i64 (rd x7_3 x10_3)))) ?hg ?ho ?hn ?hr ?_;(case ho=>rfl);(case hg=>rfl);(case hn=>rfl);(case hr=>first|(go_simp;done)|(go_simp;rfl));intro w51 hw;have hg:w49.grownBy w51 (some go30):=(by rw [hw];exact HP50.2);have hp_:Kd.R (Kd.int .i64) 3 w51 w.heap.size (fun k_=>some k_≠(u547002:Value).ownBlock) (.slice (some ⟨go30,0,none⟩) x7_3.length co47) y554:=(by rw [hw,Ny554.out];exact HP50.1);clear HP50;have n0_:=Aside0.mk (hp_);have n1_:=Aside0.mk (Kd.R_after (v:=(.slice (some ⟨go30,0,none⟩) x7_3.length co47)) (v1:=(.slice (some ⟨go30,0,none⟩) x7_3.length co47)) (ok:=(fun _=>True)) (by (with_reducible repeat (first|apply Kd.R_alloc|apply Kd.R_drewN|apply Kd.R_drew));exact HO_547002.out) hg (.inl rfl));have n2_:=Aside0.mk (blk_grown (g:=gb541) (o:=.cells #[.string a0_0,.int .i64 a0_1] 83 (0,0)) (by (with_reducible repeat (first|refine blk_drewN ?_ _|refine blk_drew ?_|refine blk_alloc ?_ _));exact BK541.out) hg (Kd.R_ne HO_7.out BK541.out (by decide)));have n3_:=Aside0.mk (blk_grown (g:=gb542) (o:=.cells #[.string (⟨#[]⟩:ByteArray),.int .i64 0,.slice none 0 0] 94 (0,0)) (by (with_reducible repeat (first|refine blk_drewN ?_ _|refine blk_drew ?_|refine blk_alloc ?_ _));exact BK542.out) hg (Kd.R_ne HO_7.out BK542.out (by decide)));have n4_:=Aside0.mk (blk_grown (g:=gb546) (o:=.cells #[.string t547,.int .i64 t548,u547002] 94 (0,0)) (by (with_reducible repeat (first|refine blk_drewN ?_ _|refine blk_drew ?_|refine blk_alloc ?_ _));exact BK546.out) hg (Kd.R_ne HO_7.out BK546.out (by decide)));have n5_:=Aside0.mk (blk_grown (g:=gb550) (o:=.cells #[.string t547,.int .i64 t548,.int .i64 t549] 85 (0,0)) (by (with_reducible repeat (first|refine blk_drewN ?_ _|refine blk_drew ?_|refine blk_alloc ?_ _));exact BK550.out) hg (Kd.R_ne HO_7.out BK550.out (by decide)));have n6_:=Aside0.mk ((by rw [hw];exact below_set (HB.out) GB30.out:Below w.heap.size w w51));clear HO_7;clear HO_547002;clear BK541;clear BK542;clear BK546;clear BK550;clear HB;have HO_7:=n0_;have HO_547002:=n1_;have BK541:=n2_;have BK542:=n3_;have BK546:=n4_;have BK550:=n5_;have HB:=n6_;clear n0_ n1_ n2_ n3_ n4_ n5_ n6_;clear hg hw hp_))
               have n0_:=Aside0.mk (Kd.R_drew HO_7.out)
               have n1_:=Aside0.mk (Kd.R_drew HO_547002.out)
               have n2_:=Aside0.mk (blk_drew BK541.out)
               have n3_:=Aside0.mk (blk_drew BK542.out)
               have n4_:=Aside0.mk (blk_drew BK546.out)
               have n5_:=Aside0.mk (blk_drew BK550.out)
               have n6_:=Aside0.mk (below_drew1 HB.out)
               clear HO_7
               clear HO_547002
               clear BK541
               clear BK542
               clear BK546
               clear BK550
               clear HB
               have HO_7:=n0_
               have HO_547002:=n1_
               have BK541:=n2_
               have BK542:=n3_
               have BK546:=n4_
               have BK550:=n5_
               have HB:=n6_
               clear n0_ n1_ n2_ n3_ n4_ n5_ n6_
               have p555:0≤(x10_3:Int):=of_decide_eq_true (by first|(with_reducible assumption)|assumption)
               have q555:x10_3 < (y554.length:Int):=(by have h_:(x10_3:Int) < ((x7_3.length:Int):Int):=of_decide_eq_true (by first|(with_reducible assumption)|assumption);first|(have e_:=(Kd.R_reads' HO_7.out).1;omega)|simpa only [Ny553.out,Ny554.out,List.length_set] using h_)
               have ql555:((x10_3:Int) < ((x7_3.length:Int):Int))=True:=eq_true (of_decide_eq_true (by first|(with_reducible assumption)|assumption))
               obtain ⟨ad555,e555,hx555_0⟩:=Kd.at_int (Kd.R_reads' HO_7.out).2.2 x10_3 p555 q555
               obtain rfl:(⟨go30,0,none⟩:Addr)=ad555:=(by injection e555)
               (first|simp only [add_plain] at hx555_0|simp only [add_at] at hx555_0|simp only [Addr.add,Nat.zero_add] at hx555_0|skip)
               replace p555:=eq_true p555
               replace q555:=eq_true q555
               refine start_ (n:=10) (S:=fun w'=>w'.cell? ⟨gb546,0,none⟩=some (.string t547)∧w'.cell? ⟨gb546,1,none⟩=some (.int .i64 t548)∧w'.cell? ⟨gb546,2,none⟩=some (u547002)∧w'.cell? ⟨go30,(x10_3).toNat,none⟩=some (.int .i64 (rd y554 x10_3))) (ds:=[7,9]) #[false,false,false,false,false,false,false,false,false,false] (by kernel_rfl) rfl rfl ⟨(blk_cell BK546.out 0).trans rfl,(blk_cell BK546.out 1).trans rfl,(blk_cell BK546.out 2).trans rfl,hx555_0⟩ (fun hHeld=>?_);refine with_tabW mosaicref04_Gen_Pick.tab18 mosaicref04_Gen_Pick.bits18 (fun HT_ HW_=>?_)
               generalize w51.drew=w52 at HO_7 HO_547002 BK541 BK542 BK546 BK550 HB hx555_0 hHeld ⊢
               refine pure_ (i:=0) (N:=some 75) (v:=?_) (a':=?_) #[true,false,false,false,false,false,false,false,false,false] rfl rfl (any_of HT_.out (by kernel_rfl)) (fun _ _ _ h=>h) (Or.inl ⟨by rfl,?_⟩) ?_ ?_
               rotate_left
               ·
                intro w'
                go_simp
                with_reducible rfl
               rotate_left
               ·
                simp only [Act.put,List.setIfInBounds_toArray,List.set_cons_zero,List.set_cons_succ,i64_w,i32_w]
                rfl
               refine pure_ (i:=2) (N:=some 77) (v:=?_) (a':=?_) #[true,false,true,false,false,false,false,false,false,false] rfl rfl (any_of HT_.out (by kernel_rfl)) (fun _ _ _ h=>h) (Or.inl ⟨by rfl,?_⟩) ?_ ?_
               rotate_left
               ·
                intro w'
                go_simp
                with_reducible rfl
               rotate_left
               ·
                simp only [Act.put,List.setIfInBounds_toArray,List.set_cons_zero,List.set_cons_succ,i64_w,i32_w]
                rfl
               refine pure_ (i:=3) (N:=some 78) (v:=?_) (a':=?_) #[true,false,true,true,false,false,false,false,false,false] rfl rfl (any_of HT_.out (by kernel_rfl)) (fun _ _ _ h=>h) (Or.inl ⟨by rfl,?_⟩) ?_ ?_
               rotate_left
               ·
                intro w'
                go_simp
                with_reducible rfl
               rotate_left
               ·
                simp only [Act.put,List.setIfInBounds_toArray,List.set_cons_zero,List.set_cons_succ,i64_w,i32_w]
                rfl
               refine pure_ (i:=4) (N:=some 79) (v:=?_) (a':=?_) #[true,false,true,true,true,false,false,false,false,false] rfl rfl (any_of HT_.out (by kernel_rfl)) (fun _ _ _ h=>h) (Or.inl ⟨by rfl,?_⟩) ?_ ?_
               rotate_left
               ·
                intro w'
                go_simp
                with_reducible rfl
               rotate_left
               ·
                simp only [Act.put,List.setIfInBounds_toArray,List.set_cons_zero,List.set_cons_succ,i64_w,i32_w]
                rfl
               refine take_ (i:=1) (N:=some 76) (v:=?_) (a':=?_) #[true,true,true,true,true,false,false,false,false,false] rfl rfl (take_ofW HT_.out HW_.out (by kernel_rfl)) (fun _ _ _ h=>h) (Or.inl ⟨by rfl,?_⟩) hHeld ?_ ?_
               rotate_left
               ·
                rintro w' ⟨s0,s1,s2,s3⟩
                go_simp
                with_reducible rfl
               rotate_left
               ·
                simp only [Act.put,List.setIfInBounds_toArray,List.set_cons_zero,List.set_cons_succ,i64_w,i32_w]
                rfl
               refine take_ (i:=5) (N:=some 80) (v:=?_) (a':=?_) #[true,true,true,true,true,true,false,false,false,false] rfl rfl (take_ofW HT_.out HW_.out (by kernel_rfl)) (fun _ _ _ h=>h) (Or.inl ⟨by rfl,?_⟩) hHeld ?_ ?_
               rotate_left
               ·
                rintro w' ⟨s0,s1,s2,s3⟩
                go_simp
                with_reducible rfl
               rotate_left
               ·
                simp only [Act.put,List.setIfInBounds_toArray,List.set_cons_zero,List.set_cons_succ,i64_w,i32_w]
                rfl
               refine one_ (i:=6) (N:=some 81) #[true,true,true,true,true,true,true,false,false,false] rfl rfl (one_of HT_.out (by kernel_rfl)) (by decide) (fun K hK=>?_)
               refine value_ (w1:=?_) (v:=?_) (by rfl) rfl ?_ ?_
               rotate_left 2
               ·
                go_simp
                constructor
                ·
                 rfl
                ·
                 rfl
               refine hK.out _ _ ⟨(blk_cell (blk_alloc BK546.out _) 0).trans rfl,(blk_cell (blk_alloc BK546.out _) 1).trans rfl,(blk_cell (blk_alloc BK546.out _) 2).trans rfl,(World.cell?_alloc_lt _ _ _ (World.block_lt_of_cell? _ _ (hHeld.2.2.2))).trans (hHeld.2.2.2)⟩ (fun hHeld=>?_)
               clear hK K
               refine norm_ (a':=?_) ?_ ?_
               rotate_left
               ·
                show Act.put _ (some 81) _=_
                simp only [Act.put,List.setIfInBounds_toArray,List.set_cons_zero,List.set_cons_succ,i64_w,i32_w]
                rfl
               refine last_ (i:=7) (N:=some 82) #[true,true,true,true,true,true,true,true,false,false] rfl rfl (one_of HT_.out (by kernel_rfl)) (by decide) (fun K hK=>?_)
               refine Kd.R_append_step (Kd.int .i64) (w0:=w) w.heap.size (by rfl) (.tmp 76) (.tmp 81) 77 3 (.int .i64 0) 8 rfl Try.underlying77 info3 rfl (by decide) (by omega) u547002 x547002_3 (rd y554 x10_3) [.int .i64 (rd y554 x10_3)] (fun k_=>some k_≠(.slice (some ⟨go30,0,none⟩) x7_3.length co47:Value).ownBlock) (fun _=>False) rfl rfl ?aP (fun _ hk=>hk.elim) ?aF ?aO ?aB ?aS ?aL ?_
               (case aP=>exact rfl)
               (case aB=>exact (by repeat (first|(with_reducible first|exact HB.out|apply below_alloc|apply pw_below_drewN|apply below_drew1|refine below_set ?_ GE541.out|refine below_set ?_ GE542.out|refine below_set ?_ GE546.out|refine below_set ?_ GE550.out)|exact HB.out)))
               (case aF=>exact (fun k_ hk=>Kd.fresh' (Kd.R_lt (by (with_reducible repeat (first|apply Kd.R_alloc|apply Kd.R_drewN|apply Kd.R_drew));exact HO_7.out)) k_ hk))
               (case aO=>exact (by (with_reducible repeat (first|apply Kd.R_alloc|apply Kd.R_drewN|apply Kd.R_drew));exact Kd.R_mono HO_547002.out (fun _ hk=>hk.2)))
               (case aS=>exact (below_size (by repeat (first|(with_reducible first|exact HB.out|apply below_alloc|apply pw_below_drewN|apply below_drew1|refine below_set ?_ GE541.out|refine below_set ?_ GE542.out|refine below_set ?_ GE546.out|refine below_set ?_ GE550.out)|exact HB.out))))
               (case aL=>have:=LMc32.out;omega)
               intro v557 w53 ho hb hg hat
               rw [← Ny556.out] at ho
               have n0_:=Aside0.mk (Kd.R_after (ok:=(fun _=>True)) (by (with_reducible repeat (first|apply Kd.R_alloc|apply Kd.R_drewN|apply Kd.R_drew));exact Kd.R_mono HO_7.out (fun _ hk=>⟨trivial,hk⟩)) hg hat)
               have n1_:=Aside0.mk (blk_grown (g:=gb541) (o:=.cells #[.string a0_0,.int .i64 a0_1] 83 (0,0)) (by (with_reducible repeat (first|refine blk_drewN ?_ _|refine blk_drew ?_|refine blk_alloc ?_ _));exact BK541.out) hg (Kd.R_ne HO_547002.out BK541.out (by decide)))
               have n2_:=Aside0.mk (blk_grown (g:=gb542) (o:=.cells #[.string (⟨#[]⟩:ByteArray),.int .i64 0,.slice none 0 0] 94 (0,0)) (by (with_reducible repeat (first|refine blk_drewN ?_ _|refine blk_drew ?_|refine blk_alloc ?_ _));exact BK542.out) hg (Kd.R_ne HO_547002.out BK542.out (by decide)))
               have n3_:=Aside0.mk (blk_grown (g:=gb546) (o:=.cells #[.string t547,.int .i64 t548,u547002] 94 (0,0)) (by (with_reducible repeat (first|refine blk_drewN ?_ _|refine blk_drew ?_|refine blk_alloc ?_ _));exact BK546.out) hg (Kd.R_ne HO_547002.out BK546.out (by decide)))
               have n4_:=Aside0.mk (blk_grown (g:=gb550) (o:=.cells #[.string t547,.int .i64 t548,.int .i64 t549] 85 (0,0)) (by (with_reducible repeat (first|refine blk_drewN ?_ _|refine blk_drew ?_|refine blk_alloc ?_ _));exact BK550.out) hg (Kd.R_ne HO_547002.out BK550.out (by decide)))
               have n5_:=Aside0.mk (hb)
               have n6_:=Aside0.mk (ho)
               clear HO_7
               clear BK541
               clear BK542
               clear BK546
               clear BK550
               clear HB
               clear HO_547002
               have HO_7:=n0_
               have BK541:=n1_
               have BK542:=n2_
               have BK546:=n3_
               have BK550:=n4_
               have HB:=n5_
               have HO558:=n6_
               clear n0_ n1_ n2_ n3_ n4_ n5_ n6_
               clear ho hb hg hat
               obtain ⟨Ao54,co54,eo54⟩:=Kd.R_slice HO558.out
               (first|subst eo54|(injection eo54 with f1_ f2_ f3_;have f4_:=f1_.symm;have f5_:=f3_.symm;clear f1_ f2_ f3_;subst f4_;subst f5_))
               refine hK.out _ _ ?_
               clear hK K
               refine norm_ (a':=?_) ?_ ?_
               rotate_left
               ·
                show Act.put _ (some 82) _=_
                simp only [Act.put,List.setIfInBounds_toArray,List.set_cons_zero,List.set_cons_succ,i64_w,i32_w]
                rfl
               refine pure_ (i:=8) (N:=some 83) (v:=?_) (a':=?_) #[true,true,true,true,true,true,true,true,true,false] rfl rfl (any_of HT_.out (by kernel_rfl)) (fun _ _ _ h=>h) (Or.inl ⟨by rfl,?_⟩) ?_ ?_
               rotate_left
               ·
                intro w'
                go_simp
                with_reducible rfl
               rotate_left
               ·
                simp only [Act.put,List.setIfInBounds_toArray,List.set_cons_zero,List.set_cons_succ,i64_w,i32_w]
                rfl
               refine last_ (i:=9) (N:=none) #[true,true,true,true,true,true,true,true,true,true] rfl rfl (one_of HT_.out (by kernel_rfl)) (by decide) (fun K hK=>?_)
               have hs55:w53.cell? ⟨gb546,2,none⟩=some (u547002):=(blk_cell BK546.out 2).trans rfl
               have hfs55:=blk_frozen BK546.out 2
               have hns55_0:=NB541_546.out
               have hns55_1:=NB542_546.out
               have hns55_3:=NB550_546.out
               have hms55_0:=NB546_541.out
               have hms55_1:=NB546_542.out
               have hms55_3:=NB546_550.out
               refine skip_ (w1:=?_) (by rfl) rfl ?_ ?_
               rotate_left
               ·
                go_simp
                rfl
               refine hK.out _ _ ?_
               clear hK K
               refine done_ (done_of HT_.out (by kernel_rfl)) ?_
               try go_wp2
               go_roundg k3
               case measure=>have:=HJ3.out;have:=HK2.out;have:=HK3.out;omega
               case rel=>exact ⟨(y554),(wrap64 (x10_3+1)),(t547),(t548),(y556),(.slice Ao54 y556.length co54),(by first|rfl|(simp;done)|(simp [*];done)),H',⟨by have:=HJ3.out;have:=HK2.out;have:=HK3.out;omega⟩,⟨by (with_reducible repeat (first|apply Kd.R_alloc|apply Kd.R_drewN|apply Kd.R_drew));exact Kd.R_mono (Kd.R_far (p:=⟨gb546,2,none⟩) (Kd.R_types HO_7.out BK546.out (by decide)) (fun _ hk=>hk.2) (.slice Ao54 y556.length co54)) (fun _ hk=>hk.1.2)⟩,⟨by (with_reducible repeat (first|apply Kd.R_alloc|apply Kd.R_drewN|apply Kd.R_drew));exact Kd.R_mono (Kd.R_far (p:=⟨gb546,2,none⟩) (Kd.R_types HO558.out BK546.out (by decide)) (fun _ hk=>hk.2) (.slice Ao54 y556.length co54)) (fun _ hk=>hk.1)⟩,⟨by (with_reducible repeat (first|refine blk_drewN ?_ _|refine blk_drew ?_|refine blk_alloc ?_ _));refine blk_far ?_ NB541_546.out _;(with_reducible repeat (first|refine blk_drewN ?_ _|refine blk_drew ?_|refine blk_alloc ?_ _));exact BK541.out⟩,⟨by (with_reducible repeat (first|refine blk_drewN ?_ _|refine blk_drew ?_|refine blk_alloc ?_ _));refine blk_far ?_ NB542_546.out _;(with_reducible repeat (first|refine blk_drewN ?_ _|refine blk_drew ?_|refine blk_alloc ?_ _));exact BK542.out⟩,⟨by (with_reducible repeat (first|refine blk_drewN ?_ _|refine blk_drew ?_|refine blk_alloc ?_ _));refine blk_put (cs:=#[.string t547,.int .i64 t548,u547002]) ?_ 2 _ rfl;(with_reducible repeat (first|refine blk_drewN ?_ _|refine blk_drew ?_|refine blk_alloc ?_ _));exact BK546.out⟩,⟨by repeat (first|(with_reducible first|exact HB.out|apply below_alloc|apply pw_below_drewN|apply below_drew1|refine below_set ?_ GE541.out|refine below_set ?_ GE542.out|refine below_set ?_ GE546.out|refine below_set ?_ GE550.out)|exact HB.out)⟩⟩
              ·
               rw [if_neg c32] at H
               exact absurd H (by simp)
             ·
              rw [if_neg c29] at H
              exact absurd H (by simp)
            ·
             rw [if_neg c28] at H
             exact absurd H (by simp)
           ·
            rw [if_neg c26] at H
            exact absurd H (by simp)
          ·
           rw [if_neg c25] at H
           exact absurd H (by simp)
         ·
          rw [if_neg c23] at H
          have c23b0:decide (x10_3 < a2)=false:=decide_eq_false c23
          clear c23
          simp only [Option.some.injEq,Prod.mk.injEq] at H
          obtain ⟨rfl,rfl,rfl⟩:=H
          have hnb56:=NB546_541.out
          have hnc56:=NB541_546.out
          have hnb57:=NB546_542.out
          have hnc57:=NB542_546.out
          have hcz58_0:wr.cell? ⟨gb546,0,none⟩=some (.string x547000_3):=(blk_cell BK546.out 0).trans rfl
          have hcz58_1:wr.cell? ⟨gb546,1,none⟩=some (.int .i64 x547001_3):=(blk_cell BK546.out 1).trans rfl
          have hcz58_2:wr.cell? ⟨gb546,2,none⟩=some (u547002):=(blk_cell BK546.out 2).trans rfl
          have hfz58_0:=blk_frozen BK546.out 0
          have hfz58_1:=blk_frozen BK546.out 1
          have hfz58_2:=blk_frozen BK546.out 2
          have hnb59:=NB542_541.out
          have hnc59:=NB541_542.out
          have hcz60_0:wr.cell? ⟨gb542,0,none⟩=some (.string (⟨#[]⟩:ByteArray)):=(blk_cell BK542.out 0).trans rfl
          have hcz60_1:wr.cell? ⟨gb542,1,none⟩=some (.int .i64 0):=(blk_cell BK542.out 1).trans rfl
          have hcz60_2:wr.cell? ⟨gb542,2,none⟩=some (.slice none 0 0):=(blk_cell BK542.out 2).trans rfl
          have hfz60_0:=blk_frozen BK542.out 0
          have hfz60_1:=blk_frozen BK542.out 1
          have hfz60_2:=blk_frozen BK542.out 2
          obtain ⟨Ao61,co61,eo61⟩:=Kd.R_slice HO_547002.out
          subst eo61
          go_wp2
          refine bodyPost_ret (results_cell_row rfl _ _ gb542 94 #[.string x547000_3,.int .i64 x547001_3,.slice Ao61 x547002_3.length co61] (0,0) _ rfl (by (with_reducible repeat (first|refine blk_drewN ?_ _|refine blk_drew ?_|refine blk_alloc ?_ _));refine blk_put (cs:=#[.string x547000_3,.int .i64 x547001_3,.slice none 0 0]) ?_ 2 _ rfl;(with_reducible repeat (first|refine blk_drewN ?_ _|refine blk_drew ?_|refine blk_alloc ?_ _));refine blk_put (cs:=#[.string x547000_3,.int .i64 0,.slice none 0 0]) ?_ 1 _ rfl;(with_reducible repeat (first|refine blk_drewN ?_ _|refine blk_drew ?_|refine blk_alloc ?_ _));refine blk_put (cs:=#[.string (⟨#[]⟩:ByteArray),.int .i64 0,.slice none 0 0]) ?_ 0 _ rfl;(with_reducible repeat (first|refine blk_drewN ?_ _|refine blk_drew ?_|refine blk_alloc ?_ _));exact BK542.out) Try.underlying94 rfl (by kernel_rfl)) rfl ?_
          exact ⟨_,by first|rfl|(simp [errW_none,errW_some] <;> rfl)|(simp [*,errW_none,errW_some] <;> rfl),by (with_reducible repeat (first|apply Kd.R_alloc|apply Kd.R_drewN|apply Kd.R_drew));exact Kd.R_mono (Kd.R_far (p:=⟨gb542,2,none⟩) (Kd.R_far (p:=⟨gb542,1,none⟩) (Kd.R_far (p:=⟨gb542,0,none⟩) (Kd.R_types HO_547002.out BK542.out (by decide)) (fun _ hk=>hk.2) (.string x547000_3)) (fun _ hk=>hk.2) (.int .i64 x547001_3)) (fun _ hk=>hk.2) (.slice Ao61 x547002_3.length co61)) (fun _ hk=>trivial),by repeat (first|(with_reducible first|exact HB.out|apply below_alloc|apply pw_below_drewN|apply below_drew1|refine below_set ?_ GE541.out|refine below_set ?_ GE542.out|refine below_set ?_ GE546.out)|exact HB.out)⟩
end Go.Proofs.Ytelcaepenfjloaa.Print
/-! #### Pr72 -/
namespace Go.Proofs.Ytelcaepenfjloaa.Print
open Go.RowKit Go.Proofs.YtelcaepenfjloaaW.PrintWords Go.Proofs.YtelcaepenfjloaaW.PrintLast Go.Proofs.YtelcaepenfjloaaW.PrintMore
attribute [local go_sem] max2_int min2_int max_two min_two max_three min_three max_four min_four
set_option linter.unusedVariables false
set_option linter.unusedSimpArgs false
/-! ### mosaicref04_Same: function 72 -/
def mosaicref04_Same.l0:Nat→List Int→List Int→Int→Option (Bool)
 | 0,_,_,_=>none
 | k+1,x0,x1,x5=>if x5 < (x0.length:Int) then (if 0≤x5 then (if x5 < (x1.length:Int) then (if (rd x0 x5)=(rd x1 x5) then (mosaicref04_Same.l0 k x0 x1 (wrap64 (x5+1))) else (some false)) else (none)) else (none)) else (some true)
def mosaicref04_Same.f (k:Nat) (l0:List Int) (l1:List Int):Option (Bool):=if (l0.length:Int)=(l1.length:Int) then (mosaicref04_Same.l0 k l0 l1 0) else (some false)
theorem mosaicref04_Same.mono_l:∀ k,(∀ y0 y1 y2,LeO (mosaicref04_Same.l0 k y0 y1 y2) (mosaicref04_Same.l0 (k+1) y0 y1 y2))
 | 0=>fun _ _ _ r h=>by simp [mosaicref04_Same.l0] at h
 | k+1=>by
  have ih0:=mosaicref04_Same.mono_l k
  ·
   intro y0 y1 y2
   unfold mosaicref04_Same.l0
   repeat' first
   | (with_reducible exact ih0 _ _ _)
   | (with_reducible exact LeO.refl _)
   | (with_reducible exact LeO.none _)
   | (with_reducible refine LeO.ite ?_ ?_)
   | (with_reducible refine LeO.bind ?_ (fun _=>?_))
   | exact ih0 _ _ _
   | exact LeO.none _
   | refine LeO.ite ?_ ?_
   | refine LeO.bind ?_ (fun _=>?_)
theorem mosaicref04_Same.mono:∀ a0 a1 k,LeO (mosaicref04_Same.f k a0 a1) (mosaicref04_Same.f (k+1) a0 a1):=by
 intro a0 a1 k
 have ih0:=mosaicref04_Same.mono_l k
 unfold mosaicref04_Same.f
 repeat' first
   | (with_reducible exact ih0 _ _ _)
   | (with_reducible exact LeO.refl _)
   | (with_reducible exact LeO.none _)
   | (with_reducible refine LeO.ite ?_ ?_)
   | (with_reducible refine LeO.bind ?_ (fun _=>?_))
   | exact ih0 _ _ _
   | exact LeO.none _
   | refine LeO.ite ?_ ?_
   | refine LeO.bind ?_ (fun _=>?_)
set_option maxHeartbeats 8000000 in
set_option maxRecDepth 100000 in
theorem mosaicref04_Same.calls (k:Nat) (A0:Option Addr) (c0:Nat) (l0:List Int) (A1:Option Addr) (c1:Nat) (l1:List Int) (r:Bool) (w:World) (hr0:Kd.C (Kd.int .i64) w A0 l0.length l0) (hc0:l0.length≤c0) (hr1:Kd.C (Kd.int .i64) w A1 l1.length l1) (hc1:l1.length≤c1) (h:mosaicref04_Same.f k l0 l1=some r) :
  Calls Try.prog 72 #[.slice A0 l0.length c0,.slice A1 l1.length c1] w fun e w'=>e=.returned (.bool r)∧Drawn0 w w':=by
 have HR0:=Aside0.mk hr0
 have HC0:=Aside0.mk hc0
 clear hr0 hc0
 have HR1:=Aside0.mk hr1
 have HC1:=Aside0.mk hc1
 clear hr1 hc1
 have H:(if (l0.length:Int)=(l1.length:Int) then (mosaicref04_Same.l0 k l0 l1 0) else (some false))=some r:=h
 clear h
 by_cases c3:(l0.length:Int)=(l1.length:Int)
 ·
  rw [if_pos c3] at H
  have c3b0:((l0.length:Int) == (l1.length:Int))=true:=beq_iff_eq.mpr c3
  have c3b1:((l0.length:Int) != (l1.length:Int))=false:=bne_eq_false_iff_eq.mpr c3
  have c3b2:(l0.length == l1.length)=true:=by first|simpa using c3|(simp at c3 ⊢;omega)
  clear c3
  have H':=Aside0.mk H
  clear H
  go_enter Try.func72,Try.ntmps72
  go_wp2
  repeat (go_quiet (fail);try go_wp2)
  go_loopg [5] k (fun kq v5 w'=>∃ (x5_1:Int),v5=.int .i64 x5_1∧Aside0 (mosaicref04_Same.l0 kq l0 l1 x5_1=some r)∧Aside0 (kq≤k)∧Drawn0 w w')
  case atStart=>exact ⟨(0),(by first|rfl|(simp;done)|(simp [*];done)),H',⟨Nat.le_refl _⟩,by repeat (first|exact Drawn0.refl _|apply Drawn0.step)⟩
  case round =>
   clear H'
   try clear c1
   try clear p2
   try clear c3
   try clear c3b0
   try clear c3b1
   try clear c3b2
   obtain ⟨x5_1,rfl,HA,HK1,⟨m1,rfl⟩⟩:=hrel
   cases gk with
   | zero=>exact absurd HA.out (by simp [mosaicref04_Same.l0])
   | succ k1 =>
    have H:=HA.out
    clear HA
    simp only [mosaicref04_Same.l0] at H
    by_cases c4:x5_1 < (l0.length:Int)
    ·
     rw [if_pos c4] at H
     have c4b0:decide (x5_1 < (l0.length:Int))=true:=decide_eq_true c4
     clear c4
     by_cases c5:0≤x5_1
     ·
      rw [if_pos c5] at H
      have c5b0:decide (0≤x5_1)=true:=decide_eq_true c5
      clear c5
      by_cases c6:x5_1 < (l1.length:Int)
      ·
       rw [if_pos c6] at H
       have c6b0:decide (x5_1 < (l1.length:Int))=true:=decide_eq_true c6
       clear c6
       by_cases c7:(rd l0 x5_1)=(rd l1 x5_1)
       ·
        rw [if_pos c7] at H
        have c7b0:((rd l0 x5_1) == (rd l1 x5_1))=true:=beq_iff_eq.mpr c7
        have c7b1:((rd l0 x5_1) != (rd l1 x5_1))=false:=bne_eq_false_iff_eq.mpr c7
        clear c7
        have H':=Aside0.mk H
        clear H
        have p559:0≤(x5_1:Int):=of_decide_eq_true (by first|(with_reducible assumption)|assumption)
        have q559:x5_1 < (l0.length:Int):=of_decide_eq_true (by first|(with_reducible assumption)|assumption)
        obtain ⟨ad559,e559,hx559_0⟩:=Kd.at_int HR0.out x5_1 p559 q559
        cases e559
        replace p559:=eq_true p559
        replace q559:=eq_true q559
        have p560:0≤(x5_1:Int):=of_decide_eq_true (by first|(with_reducible assumption)|assumption)
        have q560:x5_1 < (l1.length:Int):=of_decide_eq_true (by first|(with_reducible assumption)|assumption)
        obtain ⟨ad560,e560,hx560_0⟩:=Kd.at_int HR1.out x5_1 p560 q560
        cases e560
        replace p560:=eq_true p560
        replace q560:=eq_true q560
        go_wp2
        repeat (go_quiet (fail);try go_wp2)
        go_roundg k1
        case measure=>have:=HK1.out;omega
        case rel=>exact ⟨(wrap64 (x5_1+1)),(by first|rfl|(simp;done)|(simp [*];done)),H',⟨by have:=HK1.out;omega⟩,by repeat (first|exact Drawn0.refl _|apply Drawn0.step)⟩
       ·
        rw [if_neg c7] at H
        have c7b0:((rd l0 x5_1) == (rd l1 x5_1))=false:=beq_eq_false_iff_ne.mpr c7
        have c7b1:((rd l0 x5_1) != (rd l1 x5_1))=true:=bne_iff_ne.mpr c7
        obtain rfl:=Option.some.inj H
        have p559:0≤(x5_1:Int):=of_decide_eq_true (by first|(with_reducible assumption)|assumption)
        have q559:x5_1 < (l0.length:Int):=of_decide_eq_true (by first|(with_reducible assumption)|assumption)
        obtain ⟨ad559,e559,hx559_0⟩:=Kd.at_int HR0.out x5_1 p559 q559
        cases e559
        replace p559:=eq_true p559
        replace q559:=eq_true q559
        have p560:0≤(x5_1:Int):=of_decide_eq_true (by first|(with_reducible assumption)|assumption)
        have q560:x5_1 < (l1.length:Int):=of_decide_eq_true (by first|(with_reducible assumption)|assumption)
        obtain ⟨ad560,e560,hx560_0⟩:=Kd.at_int HR1.out x5_1 p560 q560
        cases e560
        replace p560:=eq_true p560
        replace q560:=eq_true q560
        go_wp2
        repeat (go_quiet (fail);try go_wp2)
        go_ret
        exact ⟨by first|rfl|(simp;done)|(simp [*];done),by repeat (first|exact Drawn0.refl _|apply Drawn0.step)⟩
      ·
       rw [if_neg c6] at H
       exact absurd H (by simp)
     ·
      rw [if_neg c5] at H
      exact absurd H (by simp)
    ·
     rw [if_neg c4] at H
     have c4b0:decide (x5_1 < (l0.length:Int))=false:=decide_eq_false c4
     clear c4
     obtain rfl:=Option.some.inj H
     go_wp2
     repeat (go_quiet (fail);try go_wp2)
     go_ret
     exact ⟨by first|rfl|(simp;done)|(simp [*];done),by repeat (first|exact Drawn0.refl _|apply Drawn0.step)⟩
 ·
  rw [if_neg c3] at H
  have c3b0:((l0.length:Int) == (l1.length:Int))=false:=beq_eq_false_iff_ne.mpr c3
  have c3b1:((l0.length:Int) != (l1.length:Int))=true:=bne_iff_ne.mpr c3
  have c3b2:(l0.length == l1.length)=false:=by first|simpa using c3|(simp at c3 ⊢;omega)
  obtain rfl:=Option.some.inj H
  go_enter Try.func72,Try.ntmps72
  go_wp2
  repeat (go_quiet (fail);try go_wp2)
  go_ret
  exact ⟨by first|rfl|(simp;done)|(simp [*];done),by repeat (first|exact Drawn0.refl _|apply Drawn0.step)⟩
end Go.Proofs.Ytelcaepenfjloaa.Print
/-! #### PurePrng3 -/
/- prng in plain words: picks; the page's examples. -/
namespace Go.Proofs.Ytelcaepenfjloaa.Pure
open Go.RowKit Go.Proofs.Ytelcaepenfjloaa.Print Go.Proofs.YtelcaepenfjloaaW.PrintWords Go.Proofs.YtelcaepenfjloaaW.PrintLast Go.Proofs.YtelcaepenfjloaaW.PrintMore
set_option linter.unusedVariables false
set_option linter.unusedSimpArgs false
def swapL (L:List Int) (i j:Nat):List Int:=(L.set i (L.getD j 0)).set j (L.getD i 0)
theorem swapL_length (L:List Int) (i j:Nat):(swapL L i j).length=L.length:=by simp [swapL]
def pickG (seed:ByteArray) (n:Nat):Nat→Nat→List Int→Int→List Int×Int
 | 0,_,L,u=>(L,u)
 | c+1,i,L,u=>pickG seed n c (i+1) (swapL L i ((i:Int)+(belowP seed u ((n:Int) - i)).1).toNat) (u+(belowP seed u ((n:Int) - i)).2)
def rangeI (n:Nat):List Int:=(List.range n).map (fun i:Nat=>(i:Int))
theorem rangeI_length (n:Nat):(rangeI n).length=n:=by simp [rangeI]
theorem rangeI_succ (n:Nat):rangeI (n+1)=rangeI n ++ [(n:Int)]:=by simp [rangeI,List.range_succ]
def pickP (seed:ByteArray) (u n k:Int):List Int×Int :=
 if 0≤n∧n≤4096∧0≤k∧k≤n then ((pickG seed n.toNat k.toNat 0 (rangeI n.toNat) u).1.take k.toNat,(pickG seed n.toNat k.toNat 0 (rangeI n.toNat) u).2) else ([],u)
theorem pick_l1 (seed:ByteArray) (n kk:Nat) (hn:n≤4096) (hk:kk≤n):∀ (c i:Nat) (L:List Int) (u:Int) (b:ByteArray),i+c=kk→L.length=n→GenI seed u b→u+8 * c+8≤1000000000 →
  ∃ b',GenI seed (pickG seed n c i L u).2 b'∧Ev (fun k=>prng_Gen_Pick.l1 k (n:Int) (kk:Int) L (kk:Int) (i:Int) seed u b) ((pickG seed n c i L u).1.take kk,seed,(pickG seed n c i L u).2,b')
 | 0,i,L,u,b,h,hL,hg,hu=>by
  refine ⟨b,hg,Ev.succ ?_⟩
  simp only [prng_Gen_Pick.l1]
  refine Ev.neg (by omega) (Ev.pos (by omega) (Ev.pos (by omega) (Ev.some_ ?_)))
  rw [Int.toNat_natCast]
  rfl
 | c+1,i,L,u,b,h,hL,hg,hu=>by
  obtain ⟨b1,g1,e1⟩:=below_ev seed u ((n:Int) - i) b hg (by omega)
  have hb:=belowP_range seed u ((n:Int) - i) hg.1 hg.2.1 (by omega)
  have hb1:=hb.2.1 (by omega) (by omega)
  rw [pickG]
  generalize hd:belowP seed u ((n:Int) - i)=d at g1 e1 hb hb1 ⊢
  obtain ⟨b',g',e'⟩:=pick_l1 seed n kk hn hk c (i+1) (swapL L i ((i:Int)+d.1).toNat) (u+d.2) b1 (by omega) (by rw [swapL_length];exact hL) g1 (by omega)
  refine ⟨b',g',Ev.succ ?_⟩
  simp only [prng_Gen_Pick.l1]
  rw [wrap_of (x:=(n:Int) - i) (by omega) (by omega)]
  refine Ev.pos (by omega) (Ev.bind e1 ?_)
  simp only []
  rw [wrap_of (x:=(i:Int)+d.1) (by omega) (by omega),wrap_succ i (by omega)]
  refine Ev.pos (by omega) (Ev.pos (by omega) (Ev.pos (by omega) (Ev.pos (by omega) ?_)))
  rw [Int.toNat_natCast,rd_nat,show rd L ((i:Int)+d.1)=L.getD ((i:Int)+d.1).toNat 0 from rfl]
  exact e'
theorem pick_l0 (seed:ByteArray) (n kk:Nat) (hn:n≤4096) (u:Int) (b:ByteArray) (r:List Int×ByteArray×Int×ByteArray) (hr:Ev (fun k=>prng_Gen_Pick.l1 k (n:Int) (kk:Int) (rangeI n) (kk:Int) 0 seed u b) r) :
  ∀ (d i:Nat),i+d=n→Ev (fun k=>prng_Gen_Pick.l0 k (n:Int) (kk:Int) (rangeI i ++ List.replicate d 0) (n:Int) (i:Int) seed u b) r
 | 0,i,h=>by
  refine Ev.succ ?_
  simp only [prng_Gen_Pick.l0]
  rw [show List.replicate 0 (0:Int)=[] from rfl,List.append_nil,show i=n by omega]
  exact Ev.neg (by omega) hr
 | d+1,i,h=>by
  refine Ev.succ ?_
  simp only [prng_Gen_Pick.l0]
  have hl:(rangeI i ++ List.replicate (d+1) (0:Int)).length=n:=by rw [List.length_append,rangeI_length,List.length_replicate];omega
  have hset:=set_pad (rangeI i) d (i:Int)
  rw [rangeI_length,← rangeI_succ] at hset
  rw [hl,Int.toNat_natCast,hset,wrap_succ i (by omega)]
  exact Ev.pos (by omega) (Ev.pos (by omega) (Ev.pos (by omega) (pick_l0 seed n kk hn u b r hr d (i+1) (by omega))))
theorem pick_ev (seed:ByteArray) (u n k:Int) (b:ByteArray) (hg:GenI seed u b) (hu:u≤900000000) :
  ∃ b',GenI seed (pickP seed u n k).2 b'∧Ev (fun K=>prng_Gen_Pick.f K seed u b n k) ((pickP seed u n k).1,seed,(pickP seed u n k).2,b'):=by
 unfold prng_Gen_Pick.f pickP
 have bad:Ev (fun K=>prng_Gen_Pick.j0 K n k true seed u b) ([],seed,u,b):=by
  refine Ev.succ ?_
  simp only [prng_Gen_Pick.j0]
  exact Ev.pos (by simp) (Ev.some_ rfl)
 by_cases h:0≤n∧n≤4096∧0≤k∧k≤n
 ·
  rw [if_pos h]
  obtain ⟨n,rfl⟩:=Int.eq_ofNat_of_zero_le h.1
  obtain ⟨k,rfl⟩:=Int.eq_ofNat_of_zero_le h.2.2.1
  rw [Int.toNat_natCast,Int.toNat_natCast]
  obtain ⟨b',g',e'⟩:=pick_l1 seed n k (by omega) (by omega) k 0 (rangeI n) u b (by omega) (rangeI_length n) hg (by omega)
  refine ⟨b',g',?_⟩
  refine Ev.neg (by omega) (Ev.neg (by omega) (Ev.neg (by omega) ?_))
  rw [decide_eq_false (by omega)]
  refine Ev.succ ?_
  simp only [prng_Gen_Pick.j0]
  rw [Int.toNat_natCast]
  refine Ev.neg (by simp) (Ev.pos (by omega) (Ev.pos (by omega) ?_))
  exact pick_l0 seed n k (by omega) u b _ e' n 0 (by omega)
 ·
  rw [if_neg h]
  refine ⟨b,hg,?_⟩
  by_cases h1:n < 0
  ·
   exact Ev.pos h1 bad
  refine Ev.neg h1 ?_
  by_cases h2:n > 4096
  ·
   exact Ev.pos h2 bad
  refine Ev.neg h2 ?_
  by_cases h3:k < 0
  ·
   exact Ev.pos h3 bad
  refine Ev.neg h3 ?_
  rw [decide_eq_true (by omega)]
  exact bad
theorem new_f (s:ByteArray) (h:s.size≤64):prng_New.f s=some (s,0,⟨#[]⟩):=by
 unfold prng_New.f
 exact if_neg (by omega)
theorem x_size:(⟨#[120]⟩:ByteArray).size=1:=rfl
theorem awake04:Ev (fun k=>mosaiclaw04_awake.f k) true:=by
 unfold mosaiclaw04_awake.f
 have hc:chooseP [4294967295,7] 10=(7,2):=by decide +kernel
 have h1:=choose_ev [4294967295,7] 10 (fun x hx=>by simp at hx;rcases hx with rfl|rfl <;> omega) (by simp)
 rw [hc] at h1
 refine Ev.bind h1 (Ev.call (new_f _ (by rw [x_size];omega)) ?_)
 obtain ⟨b',g',e'⟩:=pick_ev ⟨#[120]⟩ 0 1 1 ⟨#[]⟩ (GenI.start _ (by rw [x_size];omega) _) (by omega)
 refine Ev.bind e' ?_
 have hp:(pickP ⟨#[120]⟩ 0 1 1).1=[0]:=by
  have hb:=belowP_range ⟨#[120]⟩ 0 1 (by rw [x_size];omega) (by omega) (by omega)
  have hb1:=hb.2.1 (by omega) (by omega)
  have hz:(belowP ⟨#[120]⟩ 0 1).1=0:=by omega
  unfold pickP
  rw [if_pos (by omega)]
  have e1:(1:Int).toNat=1:=rfl
  have e2:((1:Nat):Int) - ((0:Nat):Int)=1:=rfl
  simp only [e1]
  rw [pickG,pickG,e2,hz]
  decide
 simp only []
 rw [hp]
 have hsz:=blockB_size ⟨#[120]⟩ 0 ⟨by omega,by omega,by rw [x_size];omega⟩
 refine Ev.pos (by simp) (Ev.pos (by simp) (Ev.pos (by simp) (Ev.pos (by simp) (Ev.pos (by decide) (Ev.bind (block_ev _ _ (by rw [x_size];omega)) (Ev.some_ ?_))))))
 rw [hsz]
 rfl
end Go.Proofs.Ytelcaepenfjloaa.Pure
/-! #### PurePrngChooses -/
/- The pure statement of PrngChooses. -/
namespace Go.Proofs.Ytelcaepenfjloaa.Pure
open Go.RowKit Go.Proofs.Ytelcaepenfjloaa.Print Go.Proofs.YtelcaepenfjloaaW.PrintWords Go.Proofs.YtelcaepenfjloaaW.PrintLast Go.Proofs.YtelcaepenfjloaaW.PrintMore
set_option linter.unusedVariables false
theorem wfu32 {x:Int} (h:(Lit.int .u32 x).wf=true):0≤x∧x < 4294967296:=by
 simp only [Lit.wf,Bool.and_eq_true,decide_eq_true_eq] at h
 have h1:IntKind.u32.min=0:=by decide
 have h2:IntKind.u32.max=4294967295:=by decide
 rw [h1,h2] at h
 omega
theorem PrngChooses:mosaiclaw04_PrngChooses.Pure:=by
 intro l n hl hn
 refine Ev.rounds ?_
 unfold mosaiclaw04_PrngChooses.f
 by_cases h:(l.length:Int) > 40
 ·
  exact Ev.pos h (Ev.bind awake04 (Ev.some_ rfl))
 have hU:U32 l:=fun x hx=>wfu32 (hl.2 x hx)
 refine Ev.neg h (Ev.bind (choose_ev l n hU (by omega)) (Ev.bind (refchoose_ev l n hU (by omega)) (Ev.bind awake04 (Ev.pos rfl (Ev.pos rfl (Ev.pos rfl ?_))))))
 have key:0≤(chooseP l n).1∧(¬ n < 1→(chooseP l n).1 < n)∧(chooseP l n).2≤8∧(chooseP l n).2≤l.length:=by
  unfold chooseP
  split
  ·
   rename_i hc
   have:=chG_range n (bndN n) hc.1 (l.take 8) 0 0 (fun x hx=>(hU x (List.mem_of_mem_take hx)).1) (by omega)
   rw [List.length_take] at this
   exact ⟨this.1,fun _=>this.2.1,by have:=this.2.2.2;omega,by have:=this.2.2.2;omega⟩
  ·
   exact ⟨by simp,fun h=>by simp;omega,by simp,by simp⟩
 refine Ev.pos key.1 ?_
 by_cases h1:n < 1
 ·
  exact Ev.pos h1 (Ev.pos key.2.2.1 (Ev.some_ (decide_eq_true key.2.2.2)))
 ·
  exact Ev.neg h1 (Ev.pos (key.2.1 h1) (Ev.pos key.2.2.1 (Ev.some_ (decide_eq_true key.2.2.2))))
end Go.Proofs.Ytelcaepenfjloaa.Pure
/-! #### LawPrngChooses -/
/- The given statement PrngChoosesSaid is proved: the law mosaiclaw04_PrngChooses returns true for every input, without a panic; out of its pure statement (YtelcaepenfjloaaPurePrngChooses) and the walks of the functions that it reaches; no condition beyond the statement's own. -/
namespace Go.Proofs.Ytelcaepenfjloaa.prngChooses
open Go.ChangeShapes Go.WideShapes Go.ChangeAt Go.RowKit Go.Proofs.Ytelcaepenfjloaa.Print Go.Proofs.YtelcaepenfjloaaW.PrintWords Go.Proofs.Ytelcaepenfjloaa.Open
open Go.ChangeMaps (open_string shut_string)
set_option linter.unusedVariables false
set_option linter.unusedSimpArgs false
theorem own:ownKnob Try.prog.godebug=none:=by kernel_rfl
theorem laidOut:laidOutB Try.prog=true:=by kernel_rfl
set_option maxRecDepth 100000 in
theorem lifted (os:Os) (started:os.Started) (H:Type) (enc:TypeId×Value→H) :
  ReturnsInHanded {} Try.checked os 14 .any (Rows.prngChoosesSpec.pre6 enc Try.prog Try.f14 Rows.prngChoosesRow.domain false) (Rows.prngChoosesSpec.post enc Try.prog Try.f14 false true false false):=by
 refine returnsInHanded_of_change_sized (C:=Try.checked) own started (by kernel_rfl) Try.func14
  (ChangeSpec.witness6 (enc:=enc) (C:=Try.checked) false ⟨#[],#[.slice none 0 0,.int .i64 0],[]⟩ 8 (by kernel_rfl) (by kernel_rfl) (by kernel_rfl) (by kernel_rfl)) ?_
 intro W base args ds gs before hval0 hW hcnd hsz0 _
 have hval:∀ (j:Nat) t v,Try.f14.params[j]?=some t→args[j]?=some v→Value.okWide Try.prog W .any base t v:=hval0
 have hW':=hW
 obtain ⟨p,q,hA0,hV,rfl,hfz,hnd⟩:=hW
 have hA:DataW.TrodAll enc Try.prog W 0 (fun _=>true) true Try.f14.params.toList args.toList ds p:=hA0
 rw [Try.params14] at hA hval
 obtain ⟨v0,vs0,d0,ds0,p0,q0,hargs,rfl,rfl,h0,r0⟩:=trodAll_cons hA
 obtain ⟨v1,vs1,d1,ds1,p1,q1,rfl,rfl,rfl,h1,r1⟩:=trodAll_cons r0
 obtain ⟨rfl,rfl,rfl⟩:=trodAll_nil r1
 obtain rfl:args=#[v0,v1]:=by cases args;simp_all
 obtain ⟨rfl,rfl⟩:=trodVars_none hV
 have lt0:∀ x∈p0,x.block < W.heap.size:=by obtain ⟨m,hm⟩:=h0;exact DataW.trod_lt m _ _ _ hm
 have k0:=h0
 have one0:v0.cells.toList=[v0]:=by obtain ⟨a_,len_,cap_,rfl⟩:=okWide_slice Try.underlying33 (hval 0 33 v0 rfl rfl);rfl
 obtain ⟨A0,c0,l0,rfl,hc0,hr0,hq0⟩:=arg_slice opens33 one0 h0
 obtain ⟨a1,rfl,rfl,rfl,w1⟩:=open_int Try.underlying3 (hval 1 3 v1 rfl rfl) h1
 clear hA0 hval0 hsz0
 obtain ⟨kk,hkk⟩:=Pure.PrngChooses (l0) (a1) hq0 w1
 refine (mosaiclaw04_PrngChooses.callsT kk A0 c0 l0 a1 W hr0 hc0 hkk).mono ?_
 rintro e W' ⟨rfl,hd_⟩
 have bel:Below W.heap.size W W':=hd_
 exact ⟨_,rfl,_,_,_,[],_,[],hW',trodAll_mk1 (shut_bool Try.underlying4 _),(trodAll_cons_mk (Below.trod laidOut (by kernel_rfl) (of_decide_eq_true (by kernel_rfl)) k0 bel lt0) (trodAll_cons_mk (shut_int Try.underlying3 w1) trodAll_mk0)),rfl,bel.frame _,fun h=>by cases h⟩
theorem facts:joinedFacts Try.pinned.checked.prog 14 Try.f14 Rows.prngChoosesSpec Rows.prngChoosesRow=true:=by
 unfold joinedFacts
 simp only [Bool.and_eq_true]
 repeat' apply And.intro
 any_goals (with_reducible exact Fct.mayEnter)
 any_goals ((with_reducible refine Fct.lifts _ ?_);rfl)
 any_goals ((with_reducible refine Fct.make_ _ ?_);rfl)
 all_goals (as_aux_lemma=>kernel_rfl)
theorem over:Rows.prngChoosesRow.holds Try.pinned (OpenSpec.ofChange Rows.prngChoosesSpec) :=
 OpenClaim.holds_of_wide 14 Try.f14 rfl rfl rfl rfl rfl rfl rfl ⟨rfl,rfl,rfl,rfl,rfl⟩ rfl rfl rfl rfl rfl (by as_aux_lemma=>kernel_rfl) Try.func14 facts
  (of_decide_eq_true (by as_aux_lemma=>kernel_rfl)) (by unfold Func.isWrapper;first|(rw [if_pos (by decide +kernel)];as_aux_lemma=>kernel_rfl)|(rw [if_neg (by decide +kernel)];exact ⟨rfl,rfl⟩))
  (fun os started H enc _=>lifted os started H enc)
theorem proved:Rows.PrngChoosesSaid:=over
#print axioms proved
end Go.Proofs.Ytelcaepenfjloaa.prngChooses
namespace Go.Proofs.Ytelcaepenfjloaa
/-- The row, under a short name, for the claim. -/
theorem prngChooses_holds:Rows.PrngChoosesSaid:=prngChooses.proved
end Go.Proofs.Ytelcaepenfjloaa
