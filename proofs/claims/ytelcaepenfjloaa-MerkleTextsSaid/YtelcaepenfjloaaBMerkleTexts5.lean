/- The proof of the statement MerkleTexts of the seat, part 5 of 6: the functions that it reaches, as plain functions, with the walks that show it, and what they come to; the last part ends in the row. No condition beyond the statement's own. -/
import Derived.Shelf.Strings.Builder1
import Derived.Lib.Builder
import Derived.IntWalk
import Derived.Laws.BitsLemmas
import Derived.Test.YtelcaepenfjloaaBMerkleTexts1
import Derived.Test.YtelcaepenfjloaaBMerkleTexts2
import Derived.Test.YtelcaepenfjloaaBMerkleTexts3
import Derived.Test.YtelcaepenfjloaaBMerkleTexts4
/-! #### MaShaHex -/
/- sha.Hex: bytes in hexadecimal digits (strings.Builder). -/
namespace Go.Proofs.Ytelcaepenfjloaa.Print
open Go.RowKit Go.Proofs.YtelcaepenfjloaaW.PrintWords Go.Proofs.YtelcaepenfjloaaW.PrintLast Go.Proofs.YtelcaepenfjloaaW.PrintMore
open Go.Shelf
set_option linter.unusedVariables false
set_option linter.unusedSimpArgs false
def lays169_ren:Go.Shelf.Ren:=⟨fun|169=>90|n=>n,fun|70=>119|9=>9|0=>0|72=>121|37=>47|127=>148|3=>3|5=>5|n=>n,fun|n=>n⟩
theorem lays169:Go.Proofs.Lays.n169 Try.prog lays169_ren:={
 mixed:=by kernel_rfl
 f169:=Try.func90.trans (congrArg some (by kernel_rfl))
 t0:=Try.underlying0
 a0:=Try.isAgg0
 z0:=Try.sizeOf0
 v0:=Try.zeroValue0
 t3:=Try.underlying3
 a3:=Try.isAgg3
 z3:=Try.sizeOf3
 v3:=Try.zeroValue3
 t9:=Try.underlying9
 a9:=Try.isAgg9
 z9:=Try.sizeOf9
 v9:=Try.zeroValue9
 t37:=Try.underlying47
 a37:=Try.isAgg47
 z37:=Try.sizeOf47
 v37:=Try.zeroValue47
 t70:=Try.underlying119
 a70:=Try.isAgg119
 z70:=Try.sizeOf119
 v70:=Try.zeroValue119
 t72:=Try.underlying121
 a72:=Try.isAgg121
 z72:=Try.sizeOf121
 v72:=Try.zeroValue121
 t127:=Try.underlying148
 a127:=Try.isAgg148
 z127:=Try.sizeOf148
 v127:=Try.zeroValue148 }
theorem Builder_Extra_169:Go.Proofs.Builder.Extra Try.prog lays169_ren:={
 sizeBuilder:=by kernel_rfl
 liesBuilder:=by kernel_rfl
 t5:=Try.underlying5
 a5:=Try.isAgg5
 z5:=Try.sizeOf5
 v5:=Try.zeroValue5
 infoByte:=by kernel_rfl
 cellsByte:=by kernel_rfl
 sizeByte:=by kernel_rfl
 neB5:=by decide }
/-- What a builder that the call has made holds, handed back as a text. -/
theorem builderString_calls (B b:Nat) (l:List UInt8) (w:World) (h:Lib.IsBuilder 121 5 B b (Lib.byteCells l) w) (hBw:B≤w.heap.size) :
  Calls Try.prog 90 #[.pointer (some ⟨b,0,none⟩)] w fun e w'=>e=.returned (.string ⟨l.toArray⟩)∧Below B w w':=Go.Proofs.Any.Builder_String_any lays169 Builder_Extra_169 B b l w h hBw
theorem infoByte_:(Try.prog.info? 5).map (fun i=>(i.zero,i.size,i.bytes))=some (some (.int .u8 0),1,1):=by kernel_rfl
set_option maxHeartbeats 1000000 in
set_option maxRecDepth 100000 in
theorem copyCheck_used (b:Nat) (w:World) (h0:w.cell? ⟨b,0,none⟩=some (.pointer (some ⟨b,0,none⟩))) :
  Calls Try.prog 116 #[.pointer (some ⟨b,0,none⟩)] w fun e w'=>e=.returned (.tuple #[])∧w'=w:=by
 obtain ⟨j,hj,_⟩:=Option.map_eq_some_iff.1 Builder_Extra_169.sizeBuilder
 go_enter Try.func116,Try.ntmps116
 go_wp2
 rw [Lib.run_neq_ptr_same w _ Try.underlying119 hj]
 go_wp2
 go_end0
 exact ⟨rfl,rfl⟩
set_option maxHeartbeats 1000000 in
set_option maxRecDepth 100000 in
theorem copyCheck_fresh (b:Nat) (w:World) (h0:w.cell? ⟨b,0,none⟩=some (.pointer none)) (hsh:w.shape? b=some (121,2)) (hfz:w.frozen? ⟨b,0,none⟩=false) :
  Calls Try.prog 116 #[.pointer (some ⟨b,0,none⟩)] w fun e w'=>e=.returned (.tuple #[])∧w'=w.setCell ⟨b,0,none⟩ (.pointer (some ⟨b,0,none⟩)):=by
 obtain ⟨j,hj,hjs⟩:=Option.map_eq_some_iff.1 Builder_Extra_169.sizeBuilder
 go_enter Try.func116,Try.ntmps116
 go_wp2
 rw [Lib.run_to_unsafe w ⟨b,0,none⟩ Try.underlying119 Try.underlying152 hj (by rw [hjs];decide) hsh (Nat.zero_lt_succ 1)]
 simp only [Result.andThen]
 rw [Oper.upon_value]
 go_wp2
 rw [run_callFunc_extern Try.func125 (by kernel_rfl) (by kernel_rfl) (by kernel_rfl) (e:=Extern.AbiNoEscape.same) (by kernel_rfl)]
 rw [Lib.run_noEscape]
 simp only [Result.andThen]
 rw [Oper.upon_value]
 go_wp2
 rw [Lib.run_from_unsafe w ⟨b,0,none⟩ Try.underlying152 Try.underlying119 hj hsh Builder_Extra_169.liesBuilder]
 simp only [Result.andThen]
 rw [Oper.upon_value]
 go_wp2
 go_end0
 exact ⟨rfl,rfl⟩
theorem copyCheck_calls (B b:Nat) (bs:List Value) (w:World) (h:Lib.IsBuilder 121 5 B b bs w) :
  Calls Try.prog 116 #[.pointer (some ⟨b,0,none⟩)] w fun e w'=>e=.returned (.tuple #[])∧(Lib.BuilderAt 121 5 B b (.pointer (some ⟨b,0,none⟩)) bs w'∧Below B w w'):=by
 rcases h with h|h
 ·
  refine (copyCheck_fresh b w h.cell0 h.shape h.frozen0).mono ?_
  rintro e w' ⟨rfl,rfl⟩
  exact ⟨rfl,h.used _,(Below.refl B w).setCell (p:=⟨b,0,none⟩) h.1 _⟩
 ·
  refine (copyCheck_used b w h.cell0).mono ?_
  rintro e w' ⟨rfl,rfl⟩
  exact ⟨rfl,h,Below.refl B _⟩
set_option maxHeartbeats 2000000 in
set_option maxRecDepth 100000 in
theorem writeByte_calls (B b:Nat) (bs:List Value) (c:Int) (w:World) (h:Lib.IsBuilder 121 5 B b bs w) (hlen:bs.length+1≤140737488355328) (hBw:B≤w.heap.size) :
  Calls Try.prog 89 #[.pointer (some ⟨b,0,none⟩),.int .u8 c] w fun e w'=>e=.returned .nilIface∧(Lib.BuilderAt 121 5 B b (.pointer (some ⟨b,0,none⟩)) (bs ++ [.int .u8 c]) w'∧Below B w w'):=by
 obtain ⟨i0,hi,hz0,hz1,hz2⟩:=info_parts infoByte_
 go_enter Try.func89,Try.ntmps89
 go_wp2_with (go_at_call 116;refine (copyCheck_calls B b bs _ h).mono ?_)
 rintro e w1 ⟨rfl,h1,hb1⟩
 obtain ⟨hB,v,hbk,hown,hne⟩:=h1
 have c0:w1.cell? ⟨b,0,none⟩=some (.pointer (some ⟨b,0,none⟩)):=by rw [Lib.cell_of_heap hbk];rfl
 have c1:w1.cell? ⟨b,1,none⟩=some v:=by rw [Lib.cell_of_heap hbk];rfl
 go_wp2_with (at_builtin;refine wpList_append_own _ rfl _ _ 47 rfl B 5 i0 (.int .u8 0) 1 1 Try.underlying47 hi hz0 hz1 hz2 rfl (by decide) _ _ _ rfl (hown.alloc _) ⟨w1.heap.size,0,none⟩ 1 1 [.int .u8 c] rfl rfl ?c1 ?c2 ?c3 ?c4 ?c5 ?_)
 case c1 =>
  intro j u hj
  match j,hj with
  | 0,hj=>simp at hj;subst hj;simp [Addr.add]
 case c2=>intro u hu;simp at hu;subst hu;rfl
 case c3=>unfold maxLen;omega
 case c4=>omega
 case c5=>have:=hb1.size;simp;omega
 intro v' w2 hown' hgrow _
 have hlt:b < w1.heap.size:=by
  rcases Nat.lt_or_ge b w1.heap.size with h'|h'
  ·
   exact h'
  ·
   simp [Array.getElem?_eq_none h'] at hbk
 have hb2:w2.heap[b]?=some (.cells #[.pointer (some ⟨b,0,none⟩),v] 121 (0,0)):=by
  rw [hgrow.block b (by simp;omega) (fun e=>hne e.symm),Lib.alloc_old w1 _ b hlt]
  exact hbk
 have d0:w2.cell? ⟨b,0,none⟩=some (.pointer (some ⟨b,0,none⟩)):=by rw [Lib.cell_of_heap hb2];rfl
 have d1:w2.cell? ⟨b,1,none⟩=some v:=by rw [Lib.cell_of_heap hb2];rfl
 have f1:w2.frozen? ⟨b,1,none⟩=false:=Lib.frozen_of_heap hb2 1
 obtain ⟨g,cap,rfl⟩:∃ g cap,v'=.slice (some ⟨g,0,none⟩) (bs.length+1) cap:=by
  rcases hown'.2 with ⟨_,h0⟩|⟨g,cap,cur,hv,_⟩
  ·
   omega
  ·
   exact ⟨g,cap,hv⟩
 go_wp2
 go_ret
 refine ⟨rfl,?_,?_⟩
 ·
  exact Lib.BuilderAt.put (T:=121) (e:=5) hB hb2 (bs':=bs ++ [.int .u8 c]) (by simpa using hown') (by decide)
 ·
  exact ((hb1.alloc (by have:=hb1.size;omega) _).grown hgrow (by have:=hb1.size;simp;omega) (fun k hk=>(hown.lt k hk).1)).setCell (p:=⟨b,1,none⟩) hB _
def hexDigits:ByteArray:=⟨#[48,49,50,51,52,53,54,55,56,57,97,98,99,100,101,102]⟩
def hexTwo (c:Int):List Int:=[bt hexDigits (c / 16),bt hexDigits (c % 16)]
def hexL (l:List Int):List Int:=l.flatMap hexTwo
def sha_Hex.f (a0:ByteArray):Option ByteArray:=if a0.size≤70368744177664 then some (strOfNums (hexL (bytesOf a0))) else none
theorem hexL_step (l:List Int) (i:Nat) (h:i < l.length):hexL (l.take (i+1))=hexL (l.take i) ++ hexTwo (l.getD i 0):=by
 unfold hexL
 rw [List.take_succ_eq_append_getElem h,List.flatMap_append,List.getD_eq_getElem?_getD,List.getElem?_eq_getElem h]
 simp
theorem hexL_length (l:List Int):(hexL l).length=2 * l.length:=by
 induction l with
 | nil=>rfl
 | cons a l ih=>rw [hexL,List.flatMap_cons,List.length_append,← hexL,ih];simp [hexTwo];omega
theorem nums_bytes (xs:List Int) (h:∀ x∈xs,0≤x∧x≤255):nums .u8 xs=Lib.byteCells (xs.map fun n=>UInt8.ofNat n.toNat):=by
 unfold nums Lib.byteCells
 rw [List.map_map]
 refine List.map_congr_left fun x hx=>?_
 have:=h x hx
 have e:(UInt8.ofNat x.toNat).toNat=x.toNat:=UInt8.toNat_ofNat_of_lt' (by show x.toNat < 256;omega)
 simp only [Function.comp,e]
 congr 1
 omega
theorem hexL_range (l:List Int):∀ x∈hexL l,0≤x∧x≤255:=by
 intro x hx
 obtain ⟨c,_,hc⟩:=List.mem_flatMap.1 hx
 simp only [hexTwo,List.mem_cons,List.not_mem_nil,or_false] at hc
 rcases hc with rfl|rfl
 ·
  exact bt_range _ _
 ·
  exact bt_range _ _
set_option maxHeartbeats 800000 in
set_option maxRecDepth 100000 in
theorem sha_Hex.calls (a0:ByteArray) (r:ByteArray) (w:World) (h:sha_Hex.f a0=some r) :
  Calls Try.prog 42 #[.string a0] w fun e w'=>e=.returned (.string r)∧Below w.heap.size w w':=by
 unfold sha_Hex.f at h
 by_cases hs:a0.size≤70368744177664
 ·
  rw [if_pos hs] at h
  have hr:=(Option.some.inj h).symm
  clear h
  have HR:=Aside0.mk hr
  clear hr
  go_enter Try.func42,Try.ntmps42
  go_wp2
  go_loopg [4,7] (a0.size+1) (fun gg _ v7 wr=>∃ i:Nat,i+gg=a0.size+1∧v7=.int .i64 (i:Int)∧Aside0 (Lib.IsBuilder 121 5 w.heap.size w.heap.size (nums .u8 (hexL ((bytesOf a0).take i))) wr)∧Aside0 (Below w.heap.size w wr))
  case atStart=>exact ⟨0,by omega,rfl,⟨.inl ⟨Nat.le_refl _,_,heap_alloc_new _ _,World.ownsRow_nil ..,by simp [Value.ownBlock]⟩⟩,⟨below_alloc (Below.refl _ _) _⟩⟩
  case round =>
   obtain ⟨i,hi,rfl,HO,HB⟩:=hrel
   by_cases hlt:i < a0.size
   ·
    obtain ⟨gg,rfl⟩:∃ m,gk=m+1:=⟨gk - 1,by omega⟩
    have hltz:(i:Int) < (a0.size:Int):=by omega
    have p0:0≤(i:Int):=by omega
    have hx:((a0[i]'hlt).toNat:Int)=bt a0 (i:Int):=bt_at a0 (i:Int) hlt
    have hst:=hexL_step (bytesOf a0) i (by rw [bytesOf_length];exact hlt)
    rw [show (bytesOf a0).getD i 0=bt a0 (i:Int) by rw [← rd_bytesOf];simp [rd]] at hst
    have hlen:(nums .u8 (hexL ((bytesOf a0).take i))).length+2≤140737488355328:=by
     rw [nums_length,hexL_length,List.length_take]
     omega
    have hrg:=bt_range a0 (i:Int)
    generalize bt a0 (i:Int)=c at hx hst hrg
    generalize hbs:hexL ((bytesOf a0).take i)=bs at HO hst hlen
    have HST:=Aside0.mk hst
    have HLEN:=Aside0.mk hlen
    clear hst hlen hbs
    obtain ⟨j1,hj1⟩:∃ j:Int,c / 16=j:=⟨_,rfl⟩
    obtain ⟨j2,hj2⟩:∃ j:Int,Go.bits .and .u8 c 15=j:=⟨_,rfl⟩
    have e2:c % 16=j2:=by rw [← hj2,u8_and15 c hrg.1 (by omega)]
    have p1:0≤j1:=by omega
    have q1:j1 < 16:=by omega
    have p2:0≤j2:=by omega
    have q2:j2 < 16:=by omega
    have hx1:=bt_at (⟨#[48,49,50,51,52,53,54,55,56,57,97,98,99,100,101,102]⟩:ByteArray) j1
    have hx2:=bt_at (⟨#[48,49,50,51,52,53,54,55,56,57,97,98,99,100,101,102]⟩:ByteArray) j2
    have E1:=Aside0.mk hj1
    have E2:=Aside0.mk e2
    clear e2
    obtain ⟨d1,hd1⟩:∃ j:Int,bt (⟨#[48,49,50,51,52,53,54,55,56,57,97,98,99,100,101,102]⟩:ByteArray) j1=j:=⟨_,rfl⟩
    obtain ⟨d2,hd2⟩:∃ j:Int,bt (⟨#[48,49,50,51,52,53,54,55,56,57,97,98,99,100,101,102]⟩:ByteArray) j2=j:=⟨_,rfl⟩
    rw [hd1] at hx1
    rw [hd2] at hx2
    have D1:=Aside0.mk hd1
    have D2:=Aside0.mk hd2
    clear hd1 hd2 hrg
    go_wp2_with (first
     | (go_at_call 89;(with_reducible refine (writeByte_calls w.heap.size w.heap.size (nums .u8 bs) d1 _ HO.out (by have:=HLEN.out;omega) HB.out.size).mono ?_);rintro e w1 ⟨rfl,hb1,hl1⟩;have HO1:=Aside0.mk (show Lib.IsBuilder 121 5 w.heap.size w.heap.size _ _ from .inr hb1);have HB1:=Aside0.mk (HB.out.trans (hl1.mono (Nat.le_refl _)));clear HO HB hb1 hl1)
     | (go_at_call 89;(with_reducible refine (writeByte_calls w.heap.size w.heap.size (nums .u8 bs ++ [.int .u8 d1]) d2 _ HO1.out (by have:=HLEN.out;simp only [List.length_append,List.length_cons,List.length_nil];omega) HB1.out.size).mono ?_);rintro e w2 ⟨rfl,hb2,hl2⟩;have HO2:=Aside0.mk hb2;have HB2:=Aside0.mk (HB1.out.trans (hl2.mono (Nat.le_refl _)));clear HO1 HB1 hb2 hl2))
    go_roundg gg
    case measure=>omega
    case rel=>exact ⟨i+1,by omega,by go_num,⟨.inr (by
     rw [HST.out,nums_append]
     have e:nums .u8 (hexTwo c)=[.int .u8 d1,.int .u8 d2]:=by
      unfold hexTwo hexDigits
      rw [E1.out,E2.out,D1.out,D2.out]
      rfl
     rw [e]
     have:=HO2.out
     rw [List.append_assoc] at this
     exact this)⟩,HB2⟩
   ·
    have hltz:¬ (i:Int) < (a0.size:Int):=by omega
    have hall:(bytesOf a0).take i=bytesOf a0:=List.take_of_length_le (by rw [bytesOf_length];omega)
    rw [hall,nums_bytes _ (hexL_range _)] at HO
    clear hall
    go_wp2_with (go_at_call 90;refine (builderString_calls w.heap.size w.heap.size _ _ HO.out HB.out.size).mono ?_;rintro e w1 ⟨rfl,hb1⟩)
    go_ret
    exact ⟨by rw [HR.out];rfl,HB.out.trans (hb1.mono (Nat.le_refl _))⟩
 ·
  rw [if_neg hs] at h
  exact absurd h (by simp)
end Go.Proofs.Ytelcaepenfjloaa.Print
/-! #### Pr25 -/
namespace Go.Proofs.Ytelcaepenfjloaa.Print
open Go.RowKit Go.Proofs.YtelcaepenfjloaaW.PrintWords Go.Proofs.YtelcaepenfjloaaW.PrintLast Go.Proofs.YtelcaepenfjloaaW.PrintMore
attribute [local go_sem] max2_int min2_int max_two min_two max_three min_three max_four min_four
set_option linter.unusedVariables false
set_option linter.unusedSimpArgs false
/-! ### mosaiclaw01_awake: function 25 -/
def mosaiclaw01_awake.f  : Option (Bool):=(sha_Sum.f (⟨#[97,98,99]⟩:ByteArray)).bind fun t115=>((sha_Hex.f t115).bind fun t116=>(if t116.toList=([98,97,55,56,49,54,98,102,56,102,48,49,99,102,101,97,52,49,52,49,52,48,100,101,53,100,97,101,50,50,50,51,98,48,48,51,54,49,97,51,57,54,49,55,55,97,57,99,98,52,49,48,102,102,54,49,102,50,48,48,49,53,97,100]:List UInt8) then ((sha_Sum.f (⟨#[]⟩:ByteArray)).bind fun t117=>((sha_Hex.f t117).bind fun t118=>(some (t118.toList == ([101,51,98,48,99,52,52,50,57,56,102,99,49,99,49,52,57,97,102,98,102,52,99,56,57,57,54,102,98,57,50,52,50,55,97,101,52,49,101,52,54,52,57,98,57,51,52,99,97,52,57,53,57,57,49,98,55,56,53,50,98,56,53,53]:List UInt8))))) else (some false)))
set_option maxHeartbeats 8000000 in
set_option maxRecDepth 100000 in
theorem mosaiclaw01_awake.calls  (r:Bool) (w:World) (h:mosaiclaw01_awake.f  = some r) :
  Calls Try.prog 25 #[] w fun e w'=>e=.returned (.bool r)∧Below w.heap.size w w':=by
 have HB:=Aside0.mk (Below.refl w.heap.size w)
 have H:((sha_Sum.f (⟨#[97,98,99]⟩:ByteArray)).bind fun t115=>((sha_Hex.f t115).bind fun t116=>(if t116.toList=([98,97,55,56,49,54,98,102,56,102,48,49,99,102,101,97,52,49,52,49,52,48,100,101,53,100,97,101,50,50,50,51,98,48,48,51,54,49,97,51,57,54,49,55,55,97,57,99,98,52,49,48,102,102,54,49,102,50,48,48,49,53,97,100]:List UInt8) then ((sha_Sum.f (⟨#[]⟩:ByteArray)).bind fun t117=>((sha_Hex.f t117).bind fun t118=>(some (t118.toList == ([101,51,98,48,99,52,52,50,57,56,102,99,49,99,49,52,57,97,102,98,102,52,99,56,57,57,54,102,98,57,50,52,50,55,97,101,52,49,101,52,54,52,57,98,57,51,52,99,97,52,57,53,57,57,49,98,55,56,53,50,98,56,53,53]:List UInt8))))) else (some false))))=some r:=h
 clear h
 replace H:=Option.bind_eq_some_iff.mp H
 obtain ⟨t115,A10,H⟩:=H
 replace H:((sha_Hex.f t115).bind fun t116=>(if t116.toList=([98,97,55,56,49,54,98,102,56,102,48,49,99,102,101,97,52,49,52,49,52,48,100,101,53,100,97,101,50,50,50,51,98,48,48,51,54,49,97,51,57,54,49,55,55,97,57,99,98,52,49,48,102,102,54,49,102,50,48,48,49,53,97,100]:List UInt8) then ((sha_Sum.f (⟨#[]⟩:ByteArray)).bind fun t117=>((sha_Hex.f t117).bind fun t118=>(some (t118.toList == ([101,51,98,48,99,52,52,50,57,56,102,99,49,99,49,52,57,97,102,98,102,52,99,56,57,57,54,102,98,57,50,52,50,55,97,101,52,49,101,52,54,52,57,98,57,51,52,99,97,52,57,53,57,57,49,98,55,56,53,50,98,56,53,53]:List UInt8))))) else (some false)))=some r:=H
 have A1:=Aside0.mk A10
 clear A10
 replace H:=Option.bind_eq_some_iff.mp H
 obtain ⟨t116,A20,H⟩:=H
 replace H:(if t116.toList=([98,97,55,56,49,54,98,102,56,102,48,49,99,102,101,97,52,49,52,49,52,48,100,101,53,100,97,101,50,50,50,51,98,48,48,51,54,49,97,51,57,54,49,55,55,97,57,99,98,52,49,48,102,102,54,49,102,50,48,48,49,53,97,100]:List UInt8) then ((sha_Sum.f (⟨#[]⟩:ByteArray)).bind fun t117=>((sha_Hex.f t117).bind fun t118=>(some (t118.toList == ([101,51,98,48,99,52,52,50,57,56,102,99,49,99,49,52,57,97,102,98,102,52,99,56,57,57,54,102,98,57,50,52,50,55,97,101,52,49,101,52,54,52,57,98,57,51,52,99,97,52,57,53,57,57,49,98,55,56,53,50,98,56,53,53]:List UInt8))))) else (some false))=some r:=H
 have A2:=Aside0.mk A20
 clear A20
 by_cases c3:t116.toList=([98,97,55,56,49,54,98,102,56,102,48,49,99,102,101,97,52,49,52,49,52,48,100,101,53,100,97,101,50,50,50,51,98,48,48,51,54,49,97,51,57,54,49,55,55,97,57,99,98,52,49,48,102,102,54,49,102,50,48,48,49,53,97,100]:List UInt8)
 ·
  rw [if_pos c3] at H
  have c3b0:(t116.toList == ([98,97,55,56,49,54,98,102,56,102,48,49,99,102,101,97,52,49,52,49,52,48,100,101,53,100,97,101,50,50,50,51,98,48,48,51,54,49,97,51,57,54,49,55,55,97,57,99,98,52,49,48,102,102,54,49,102,50,48,48,49,53,97,100]:List UInt8))=true:=beq_iff_eq.mpr c3
  have c3b1:(t116.toList != ([98,97,55,56,49,54,98,102,56,102,48,49,99,102,101,97,52,49,52,49,52,48,100,101,53,100,97,101,50,50,50,51,98,48,48,51,54,49,97,51,57,54,49,55,55,97,57,99,98,52,49,48,102,102,54,49,102,50,48,48,49,53,97,100]:List UInt8))=false:=bne_eq_false_iff_eq.mpr c3
  clear c3
  replace H:=Option.bind_eq_some_iff.mp H
  obtain ⟨t117,A40,H⟩:=H
  replace H:((sha_Hex.f t117).bind fun t118=>(some (t118.toList == ([101,51,98,48,99,52,52,50,57,56,102,99,49,99,49,52,57,97,102,98,102,52,99,56,57,57,54,102,98,57,50,52,50,55,97,101,52,49,101,52,54,52,57,98,57,51,52,99,97,52,57,53,57,57,49,98,55,56,53,50,98,56,53,53]:List UInt8))))=some r:=H
  have A4:=Aside0.mk A40
  clear A40
  replace H:=Option.bind_eq_some_iff.mp H
  obtain ⟨t118,A50,H⟩:=H
  replace H:(some (t118.toList == ([101,51,98,48,99,52,52,50,57,56,102,99,49,99,49,52,57,97,102,98,102,52,99,56,57,57,54,102,98,57,50,52,50,55,97,101,52,49,101,52,54,52,57,98,57,51,52,99,97,52,57,53,57,57,49,98,55,56,53,50,98,56,53,53]:List UInt8)))=some r:=H
  have A5:=Aside0.mk A50
  clear A50
  obtain rfl:=Option.some.inj H
  go_enter Try.func25,Try.ntmps25
  go_wp2_with (first|((with_reducible refine gate_callee (f:=26) rfl ?_);refine goesL_ (some 1) rfl rfl Try.func26 (by kernel_rfl) rfl #[.string (⟨#[97,98,99]⟩:ByteArray)] rfl (by (try simp only [List.map_toArray,List.map_cons,List.map_nil]);first|done|rfl|(simp only [List.length_drop,List.length_take];rfl)) ?_;(with_reducible refine (sha_Sum.calls (⟨#[97,98,99]⟩:ByteArray) t115 _ A1.out).mono ?_);rintro e w6 ⟨rfl,hb⟩;refine ⟨_,rfl,?_⟩;have n0_:=Aside0.mk (below_step (by repeat (first|(with_reducible first|exact HB.out|apply below_alloc|apply pw_below_drewN|apply below_drew1)|exact HB.out)) hb);clear HB;have HB:=n0_;clear n0_;(try clear hb);(try clear hb2);(try clear hk);(try clear hi))|((with_reducible refine gate_callee (f:=42) rfl ?_);refine goesL_ (some 2) rfl rfl Try.func42 (by kernel_rfl) rfl #[.string t115] rfl (by (try simp only [List.map_toArray,List.map_cons,List.map_nil]);first|done|rfl|(simp only [List.length_drop,List.length_take];rfl)) ?_;(with_reducible refine (sha_Hex.calls t115 t116 _ A2.out).mono ?_);rintro e w7 ⟨rfl,hb⟩;refine ⟨_,rfl,?_⟩;have n0_:=Aside0.mk (below_step (by repeat (first|(with_reducible first|exact HB.out|apply below_alloc|apply pw_below_drewN|apply below_drew1)|exact HB.out)) hb);clear HB;have HB:=n0_;clear n0_;(try clear hb);(try clear hb2);(try clear hk);(try clear hi))|(go_at_call 26;(with_reducible refine (sha_Sum.calls (⟨#[]⟩:ByteArray) t117 _ A4.out).mono ?_);rintro e w8 ⟨rfl,hb⟩;have n0_:=Aside0.mk (below_step (by repeat (first|(with_reducible first|exact HB.out|apply below_alloc|apply pw_below_drewN|apply below_drew1)|exact HB.out)) hb);clear HB;have HB:=n0_;clear n0_;(try clear hb);(try clear hb2);(try clear hk);(try clear hi))|(go_at_call 42;(with_reducible refine (sha_Hex.calls t117 t118 _ A5.out).mono ?_);rintro e w9 ⟨rfl,hb⟩;have n0_:=Aside0.mk (below_step (by repeat (first|(with_reducible first|exact HB.out|apply below_alloc|apply pw_below_drewN|apply below_drew1)|exact HB.out)) hb);clear HB;have HB:=n0_;clear n0_;(try clear hb);(try clear hb2);(try clear hk);(try clear hi)))
  go_ret
  exact ⟨by first|rfl|(simp [errW_none,errW_some] <;> rfl)|(simp [*,errW_none,errW_some] <;> rfl),by repeat (first|(with_reducible first|exact HB.out|apply below_alloc|apply pw_below_drewN|apply below_drew1)|exact HB.out)⟩
 ·
  rw [if_neg c3] at H
  have c3b0:(t116.toList == ([98,97,55,56,49,54,98,102,56,102,48,49,99,102,101,97,52,49,52,49,52,48,100,101,53,100,97,101,50,50,50,51,98,48,48,51,54,49,97,51,57,54,49,55,55,97,57,99,98,52,49,48,102,102,54,49,102,50,48,48,49,53,97,100]:List UInt8))=false:=beq_eq_false_iff_ne.mpr c3
  have c3b1:(t116.toList != ([98,97,55,56,49,54,98,102,56,102,48,49,99,102,101,97,52,49,52,49,52,48,100,101,53,100,97,101,50,50,50,51,98,48,48,51,54,49,97,51,57,54,49,55,55,97,57,99,98,52,49,48,102,102,54,49,102,50,48,48,49,53,97,100]:List UInt8))=true:=bne_iff_ne.mpr c3
  obtain rfl:=Option.some.inj H
  go_enter Try.func25,Try.ntmps25
  go_wp2_with (first|((with_reducible refine gate_callee (f:=26) rfl ?_);refine goesL_ (some 1) rfl rfl Try.func26 (by kernel_rfl) rfl #[.string (⟨#[97,98,99]⟩:ByteArray)] rfl (by (try simp only [List.map_toArray,List.map_cons,List.map_nil]);first|done|rfl|(simp only [List.length_drop,List.length_take];rfl)) ?_;(with_reducible refine (sha_Sum.calls (⟨#[97,98,99]⟩:ByteArray) t115 _ A1.out).mono ?_);rintro e w10 ⟨rfl,hb⟩;refine ⟨_,rfl,?_⟩;have n0_:=Aside0.mk (below_step (by repeat (first|(with_reducible first|exact HB.out|apply below_alloc|apply pw_below_drewN|apply below_drew1)|exact HB.out)) hb);clear HB;have HB:=n0_;clear n0_;(try clear hb);(try clear hb2);(try clear hk);(try clear hi))|((with_reducible refine gate_callee (f:=42) rfl ?_);refine goesL_ (some 2) rfl rfl Try.func42 (by kernel_rfl) rfl #[.string t115] rfl (by (try simp only [List.map_toArray,List.map_cons,List.map_nil]);first|done|rfl|(simp only [List.length_drop,List.length_take];rfl)) ?_;(with_reducible refine (sha_Hex.calls t115 t116 _ A2.out).mono ?_);rintro e w11 ⟨rfl,hb⟩;refine ⟨_,rfl,?_⟩;have n0_:=Aside0.mk (below_step (by repeat (first|(with_reducible first|exact HB.out|apply below_alloc|apply pw_below_drewN|apply below_drew1)|exact HB.out)) hb);clear HB;have HB:=n0_;clear n0_;(try clear hb);(try clear hb2);(try clear hk);(try clear hi)))
  go_ret
  exact ⟨by first|rfl|(simp [errW_none,errW_some] <;> rfl)|(simp [*,errW_none,errW_some] <;> rfl),by repeat (first|(with_reducible first|exact HB.out|apply below_alloc|apply pw_below_drewN|apply below_drew1)|exact HB.out)⟩
end Go.Proofs.Ytelcaepenfjloaa.Print
/-! #### PureW -/
/- Words for pure statements: rounds that suffice (Ev), tests, numbers, lists. -/
namespace Go.Proofs.YtelcaepenfjloaaW.PrintWords
theorem Ev.pos {α:Type} {c:Prop} [Decidable c] {f g:Nat→Option α} {r:α} (h:c) (k:Ev f r):Ev (fun n=>if c then f n else g n) r:=by
 simpa only [if_pos h] using k
theorem Ev.neg {α:Type} {c:Prop} [Decidable c] {f g:Nat→Option α} {r:α} (h:¬ c) (k:Ev g r):Ev (fun n=>if c then f n else g n) r:=by
 simpa only [if_neg h] using k
theorem Ev.some_ {α:Type} {a r:α} (h:a=r):Ev (fun _=>some a) r:=h ▸ Ev.now a
theorem Ev.some_bind {α β:Type} {a:α} {f:Nat→α→Option β} {r:β} (k:Ev (fun n=>f n a) r):Ev (fun n=>(some a).bind (f n)) r:=k
theorem Ev.to {α:Type} {g:Nat→Option α} {r r':α} (h:Ev g r) (e:r=r'):Ev g r':=e ▸ h
/-- A call that has no rounds. -/
theorem Ev.call {α β:Type} {o:Option α} {a:α} {f:Nat→α→Option β} {r:β} (h:o=some a) (k:Ev (fun n=>f n a) r):Ev (fun n=>o.bind (f n)) r:=by
 subst h
 exact k
theorem Ev.succ {α:Type} {g:Nat→Option α} {r:α} (k:Ev (fun n=>g (n+1)) r):Ev g r:=Ev.step (fun _=>rfl) k
end Go.Proofs.YtelcaepenfjloaaW.PrintWords
namespace Go.Proofs.Ytelcaepenfjloaa.Pure
open Go.RowKit Go.Proofs.YtelcaepenfjloaaW.PrintWords
set_option linter.unusedVariables false
theorem wrap_succ (i:Nat) (h:i < 9223372036854775807):wrap64 ((i:Int)+1)=((i+1:Nat):Int):=by unfold wrap64;omega
theorem rd_nat (l:List Int) (i:Nat):rd l (i:Int)=l.getD i 0:=by simp [rd]
end Go.Proofs.Ytelcaepenfjloaa.Pure
/-! #### PureSha -/
/- SHA-256 in plain words: the reference's sum is the program's. -/
namespace Go.Proofs.Ytelcaepenfjloaa.Pure
open Go.RowKit Go.Proofs.Ytelcaepenfjloaa.Print Go.Proofs.YtelcaepenfjloaaW.PrintWords Go.Proofs.YtelcaepenfjloaaW.PrintLast Go.Proofs.YtelcaepenfjloaaW.PrintMore
set_option linter.unusedVariables false
set_option linter.unusedSimpArgs false
theorem bits_or_comm (k:IntKind) (x y:Int):Go.bits .or k x y=Go.bits .or k y x:=by
 simp only [Go.bits,BitVec.or_comm]
theorem ref_rotr_7 (x:Int):mosaicref01_rotr.f x 7=some (rotrN x 7):=by
 have h:=rotr_7 x
 unfold sha_rotr.f bits_RotateLeft32.f at h
 have e1:Go.bits .and .u64 (IntKind.u64.wrap (wrap64 (-7))) 31=25:=by decide +kernel
 have e2:IntKind.u64.wrap (32 - 25)=7:=by decide +kernel
 have e3:IntKind.u64.wrap (32 - 7)=25:=by decide +kernel
 rw [e1,if_pos (by omega),e2,if_pos (by omega)] at h
 unfold mosaicref01_rotr.f
 rw [if_pos (by omega),e3,if_pos (by omega),bits_or_comm]
 exact h
theorem ref_rotr_18 (x:Int):mosaicref01_rotr.f x 18=some (rotrN x 18):=by
 have h:=rotr_18 x
 unfold sha_rotr.f bits_RotateLeft32.f at h
 have e1:Go.bits .and .u64 (IntKind.u64.wrap (wrap64 (-18))) 31=14:=by decide +kernel
 have e2:IntKind.u64.wrap (32 - 14)=18:=by decide +kernel
 have e3:IntKind.u64.wrap (32 - 18)=14:=by decide +kernel
 rw [e1,if_pos (by omega),e2,if_pos (by omega)] at h
 unfold mosaicref01_rotr.f
 rw [if_pos (by omega),e3,if_pos (by omega),bits_or_comm]
 exact h
theorem ref_rotr_17 (x:Int):mosaicref01_rotr.f x 17=some (rotrN x 17):=by
 have h:=rotr_17 x
 unfold sha_rotr.f bits_RotateLeft32.f at h
 have e1:Go.bits .and .u64 (IntKind.u64.wrap (wrap64 (-17))) 31=15:=by decide +kernel
 have e2:IntKind.u64.wrap (32 - 15)=17:=by decide +kernel
 have e3:IntKind.u64.wrap (32 - 17)=15:=by decide +kernel
 rw [e1,if_pos (by omega),e2,if_pos (by omega)] at h
 unfold mosaicref01_rotr.f
 rw [if_pos (by omega),e3,if_pos (by omega),bits_or_comm]
 exact h
theorem ref_rotr_19 (x:Int):mosaicref01_rotr.f x 19=some (rotrN x 19):=by
 have h:=rotr_19 x
 unfold sha_rotr.f bits_RotateLeft32.f at h
 have e1:Go.bits .and .u64 (IntKind.u64.wrap (wrap64 (-19))) 31=13:=by decide +kernel
 have e2:IntKind.u64.wrap (32 - 13)=19:=by decide +kernel
 have e3:IntKind.u64.wrap (32 - 19)=13:=by decide +kernel
 rw [e1,if_pos (by omega),e2,if_pos (by omega)] at h
 unfold mosaicref01_rotr.f
 rw [if_pos (by omega),e3,if_pos (by omega),bits_or_comm]
 exact h
theorem ref_rotr_6 (x:Int):mosaicref01_rotr.f x 6=some (rotrN x 6):=by
 have h:=rotr_6 x
 unfold sha_rotr.f bits_RotateLeft32.f at h
 have e1:Go.bits .and .u64 (IntKind.u64.wrap (wrap64 (-6))) 31=26:=by decide +kernel
 have e2:IntKind.u64.wrap (32 - 26)=6:=by decide +kernel
 have e3:IntKind.u64.wrap (32 - 6)=26:=by decide +kernel
 rw [e1,if_pos (by omega),e2,if_pos (by omega)] at h
 unfold mosaicref01_rotr.f
 rw [if_pos (by omega),e3,if_pos (by omega),bits_or_comm]
 exact h
theorem ref_rotr_11 (x:Int):mosaicref01_rotr.f x 11=some (rotrN x 11):=by
 have h:=rotr_11 x
 unfold sha_rotr.f bits_RotateLeft32.f at h
 have e1:Go.bits .and .u64 (IntKind.u64.wrap (wrap64 (-11))) 31=21:=by decide +kernel
 have e2:IntKind.u64.wrap (32 - 21)=11:=by decide +kernel
 have e3:IntKind.u64.wrap (32 - 11)=21:=by decide +kernel
 rw [e1,if_pos (by omega),e2,if_pos (by omega)] at h
 unfold mosaicref01_rotr.f
 rw [if_pos (by omega),e3,if_pos (by omega),bits_or_comm]
 exact h
theorem ref_rotr_25 (x:Int):mosaicref01_rotr.f x 25=some (rotrN x 25):=by
 have h:=rotr_25 x
 unfold sha_rotr.f bits_RotateLeft32.f at h
 have e1:Go.bits .and .u64 (IntKind.u64.wrap (wrap64 (-25))) 31=7:=by decide +kernel
 have e2:IntKind.u64.wrap (32 - 7)=25:=by decide +kernel
 have e3:IntKind.u64.wrap (32 - 25)=7:=by decide +kernel
 rw [e1,if_pos (by omega),e2,if_pos (by omega)] at h
 unfold mosaicref01_rotr.f
 rw [if_pos (by omega),e3,if_pos (by omega),bits_or_comm]
 exact h
theorem ref_rotr_2 (x:Int):mosaicref01_rotr.f x 2=some (rotrN x 2):=by
 have h:=rotr_2 x
 unfold sha_rotr.f bits_RotateLeft32.f at h
 have e1:Go.bits .and .u64 (IntKind.u64.wrap (wrap64 (-2))) 31=30:=by decide +kernel
 have e2:IntKind.u64.wrap (32 - 30)=2:=by decide +kernel
 have e3:IntKind.u64.wrap (32 - 2)=30:=by decide +kernel
 rw [e1,if_pos (by omega),e2,if_pos (by omega)] at h
 unfold mosaicref01_rotr.f
 rw [if_pos (by omega),e3,if_pos (by omega),bits_or_comm]
 exact h
theorem ref_rotr_13 (x:Int):mosaicref01_rotr.f x 13=some (rotrN x 13):=by
 have h:=rotr_13 x
 unfold sha_rotr.f bits_RotateLeft32.f at h
 have e1:Go.bits .and .u64 (IntKind.u64.wrap (wrap64 (-13))) 31=19:=by decide +kernel
 have e2:IntKind.u64.wrap (32 - 19)=13:=by decide +kernel
 have e3:IntKind.u64.wrap (32 - 13)=19:=by decide +kernel
 rw [e1,if_pos (by omega),e2,if_pos (by omega)] at h
 unfold mosaicref01_rotr.f
 rw [if_pos (by omega),e3,if_pos (by omega),bits_or_comm]
 exact h
theorem ref_rotr_22 (x:Int):mosaicref01_rotr.f x 22=some (rotrN x 22):=by
 have h:=rotr_22 x
 unfold sha_rotr.f bits_RotateLeft32.f at h
 have e1:Go.bits .and .u64 (IntKind.u64.wrap (wrap64 (-22))) 31=10:=by decide +kernel
 have e2:IntKind.u64.wrap (32 - 10)=22:=by decide +kernel
 have e3:IntKind.u64.wrap (32 - 22)=10:=by decide +kernel
 rw [e1,if_pos (by omega),e2,if_pos (by omega)] at h
 unfold mosaicref01_rotr.f
 rw [if_pos (by omega),e3,if_pos (by omega),bits_or_comm]
 exact h
theorem wraps_u32 (n:Int) (h₀:0≤n) (h₁:n < 2 ^ 32):IntKind.u32.wrap n=n:=by rw [IntKind.wrap_u32];omega
theorem u32_or (i:Nat) (x y:Int) (hx₀:0≤x) (hx:x % 2 ^ i=0) (hx₁:x < 2 ^ 32) (hy₀:0≤y) (hy:y < 2 ^ i) (hi:y < 2 ^ 32):Go.bits .or .u32 x y=x+y :=
 bits_join .u32 32 (by decide) wraps_u32 i x y hx₀ hx hx₁ hy₀ hy hi
/-- A word of a block. -/
theorem word_eq (b:ByteArray) (i:Nat) (h:4 * i+3 < b.size) (hb:b.size≤9223372036854775807) :
  wordN (bytesOf b) (4 * (i:Int))=((((((((bt b (4 * (i:Int))) % 4294967296) * 16777216) % 4294967296)+((((bt b (4 * (i:Int)+1)) % 4294967296) * 65536) % 4294967296)) % 4294967296)+((((bt b (4 * (i:Int)+2)) % 4294967296) * 256) % 4294967296)) % 4294967296+((bt b (4 * (i:Int)+3)) % 4294967296)) % 4294967296:=by
 have hw:=word_some (bytesOf b) (4 * (i:Int)) (by omega) (by rw [bytesOf_length];omega) (by rw [bytesOf_length];exact hb)
 unfold sha_word.f at hw
 have hl:=bytesOf_length b
 have e1:wrap64 (4 * (i:Int)+1)=4 * (i:Int)+1:=by unfold wrap64;omega
 have e2:wrap64 (4 * (i:Int)+2)=4 * (i:Int)+2:=by unfold wrap64;omega
 have e3:wrap64 (4 * (i:Int)+3)=4 * (i:Int)+3:=by unfold wrap64;omega
 rw [e1,e2,e3,hl,if_pos (by omega),if_pos (by omega),if_pos (by omega),if_pos (by omega),if_pos (by omega),if_pos (by omega),if_pos (by omega),if_pos (by omega)] at hw
 have hw:=(Option.some.inj hw).symm
 rw [hw,rd_bytesOf,rd_bytesOf,rd_bytesOf,rd_bytesOf]
 have r0:=bt_range b (4 * (i:Int))
 have r1:=bt_range b (4 * (i:Int)+1)
 have r2:=bt_range b (4 * (i:Int)+2)
 have r3:=bt_range b (4 * (i:Int)+3)
 generalize bt b (4 * (i:Int))=x0 at r0 ⊢
 generalize bt b (4 * (i:Int)+1)=x1 at r1 ⊢
 generalize bt b (4 * (i:Int)+2)=x2 at r2 ⊢
 generalize bt b (4 * (i:Int)+3)=x3 at r3 ⊢
 rw [u32_or 24 (x0 % 4294967296 * 16777216 % 4294967296) (x1 % 4294967296 * 65536 % 4294967296) (by omega) (by omega) (by omega) (by omega) (by omega) (by omega),
  u32_or 16 _ (x2 % 4294967296 * 256 % 4294967296) (by omega) (by omega) (by omega) (by omega) (by omega) (by omega),
  u32_or 8 _ (x3 % 4294967296) (by omega) (by omega) (by omega) (by omega) (by omega) (by omega)]
 omega
theorem getD_pad (y:List Int) (n i:Nat) (h:i < y.length):(y ++ List.replicate n 0).getD i 0=y.getD i 0:=by
 simp [List.getD_eq_getElem?_getD,List.getElem?_append_left h]
theorem set_pad (y:List Int) (n:Nat) (v:Int):(y ++ List.replicate (n+1) 0).set y.length v=(y ++ [v]) ++ List.replicate n 0:=by
 rw [List.set_append_right _ _ (Nat.le_refl _),Nat.sub_self,List.replicate_succ,List.set_cons_zero,List.append_assoc]
 rfl
theorem words_l1 (l:List Int) (d:Nat):∀ (y:List Int),16≤y.length→y.length+d=64→Ev (fun k=>mosaicref01_Words.l1 k y (y.length:Int)) (schedL l d y.length (y ++ List.replicate d 0)):=by
 induction d with
 | zero =>
  intro y h0 h
  refine Ev.succ ?_
  simp only [mosaicref01_Words.l1,schedL]
  refine Ev.neg (by omega) (Ev.some_ (by simp))
 | succ d ih =>
  intro y h0 h
  refine Ev.succ ?_
  simp only [mosaicref01_Words.l1,schedL]
  have w15:wrap64 ((y.length:Int) - 15)=((y.length - 15:Nat):Int):=by unfold wrap64;omega
  have w2:wrap64 ((y.length:Int) - 2)=((y.length - 2:Nat):Int):=by unfold wrap64;omega
  have w7:wrap64 ((y.length:Int) - 7)=((y.length - 7:Nat):Int):=by unfold wrap64;omega
  have w16:wrap64 ((y.length:Int) - 16)=((y.length - 16:Nat):Int):=by unfold wrap64;omega
  rw [w15,w2,w7,w16,wrap_succ _ (by omega),ref_rotr_7,ref_rotr_18,ref_rotr_17,ref_rotr_19]
  simp only [Option.bind_some]
  refine Ev.pos (by omega) (Ev.pos (by omega) (Ev.pos (by omega) (Ev.pos (by omega) (Ev.pos (by omega) (Ev.pos (by omega) (Ev.pos (by omega) (Ev.pos (by omega) (Ev.pos (by omega) (Ev.pos (by omega) ?_)))))))))
  rw [set_pad,sdW_ge _ _ _ (by omega),getD_pad _ _ _ (by omega),getD_pad _ _ _ (by omega),getD_pad _ _ _ (by omega),getD_pad _ _ _ (by omega)]
  simp only [rd_nat]
  have key:∀ v v':Int,v=v'→Ev (fun k=>mosaicref01_Words.l1 k (y ++ [v]) ((y.length+1:Nat):Int)) (schedL l d (y.length+1) ((y ++ [v']) ++ List.replicate d 0)):=by
   rintro v v' rfl
   have:=ih (y ++ [v]) (by simp;omega) (by simp;omega)
   rw [List.length_append,List.length_singleton] at this
   exact this
  refine key _ _ ?_
  omega
theorem words_l0 (b:ByteArray) (hb:b.size=64) (d:Nat):∀ (y:List Int),y.length+d=16→Ev (fun k=>mosaicref01_Words.l0 k b y (y.length:Int)) (schedL (bytesOf b) (d+48) y.length (y ++ List.replicate (d+48) 0)):=by
 induction d with
 | zero =>
  intro y h
  refine Ev.succ ?_
  simp only [mosaicref01_Words.l0]
  refine Ev.neg (by omega) ?_
  have:=words_l1 (bytesOf b) 48 y (by omega) (by omega)
  rw [show (y.length:Int)=16 by omega] at this
  simpa using this
 | succ d ih =>
  intro y h
  refine Ev.succ ?_
  simp only [mosaicref01_Words.l0]
  have w0:wrap64 (4 * (y.length:Int))=4 * (y.length:Int):=by unfold wrap64;omega
  have w1:wrap64 (4 * (y.length:Int)+1)=4 * (y.length:Int)+1:=by unfold wrap64;omega
  have w2:wrap64 (4 * (y.length:Int)+2)=4 * (y.length:Int)+2:=by unfold wrap64;omega
  have w3:wrap64 (4 * (y.length:Int)+3)=4 * (y.length:Int)+3:=by unfold wrap64;omega
  rw [w0,w1,w2,w3,wrap_succ _ (by omega)]
  refine Ev.pos (by omega) (Ev.pos (by omega) (Ev.pos (by omega) (Ev.pos (by omega) (Ev.pos (by omega) (Ev.pos (by omega) (Ev.pos (by omega) (Ev.pos (by omega) (Ev.pos (by omega) (Ev.pos (by omega) ?_)))))))))
  rw [show d+1+48=(d+48)+1 by omega,schedL,set_pad,sdW,if_pos (by omega),word_eq b y.length (by omega) (by omega)]
  have key:∀ v:Int,Ev (fun k=>mosaicref01_Words.l0 k b (y ++ [v]) ((y.length+1:Nat):Int)) (schedL (bytesOf b) (d+48) (y.length+1) ((y ++ [v]) ++ List.replicate (d+48) 0)):=by
   intro v
   have:=ih (y ++ [v]) (by simp;omega)
   rw [List.length_append,List.length_singleton] at this
   exact this
  exact key _
theorem words_ev (b:ByteArray) (hb:b.size=64):Ev (fun k=>mosaicref01_Words.f k b) (sched (bytesOf b)):=words_l0 b hb 16 [] rfl
theorem max_u32:IntKind.u32.max=4294967295:=by decide
theorem mix_l0 (st kk ww:List Int) (hs:st.length=8) (hk:kk.length=64) (hw:ww.length=64) (d:Nat):∀ (t:Nat) (a b c e f g h i:Int),t+d=64 →
  Ev (fun k=>mosaicref01_Mix.l0 k st ww kk a b c e f g h i (t:Int)) (mixAdd st 8 0 (mixL kk ww d t [a,b,c,e,f,g,h,i])):=by
 induction d with
 | zero =>
  intro t a b c e f g h i ht
  obtain ⟨s0,s1,s2,s3,s4,s5,s6,s7,rfl⟩:=list8 st hs
  refine Ev.succ ?_
  simp only [mosaicref01_Mix.l0]
  refine Ev.neg (by omega) (Ev.pos (by simp) (Ev.pos (by simp) (Ev.pos (by simp) (Ev.pos (by simp) (Ev.pos (by simp) (Ev.pos (by simp) (Ev.pos (by simp) (Ev.pos (by simp) (Ev.some_ ?_)))))))))
  have:mixAdd [s0,s1,s2,s3,s4,s5,s6,s7] 8 0 (mixL kk ww 0 t [a,b,c,e,f,g,h,i])=[(a+s0) % 4294967296,(b+s1) % 4294967296,(c+s2) % 4294967296,(e+s3) % 4294967296,(f+s4) % 4294967296,(g+s5) % 4294967296,(h+s6) % 4294967296,(i+s7) % 4294967296]:=rfl
  rw [this]
  show [(s0+a) % 4294967296,(s1+b) % 4294967296,(s2+c) % 4294967296,(s3+e) % 4294967296,(s4+f) % 4294967296,(s5+g) % 4294967296,(s6+h) % 4294967296,(s7+i) % 4294967296]=_
  simp only [Int.add_comm]
 | succ d ih =>
  intro t a b c e f g h i ht
  refine Ev.succ ?_
  simp only [mosaicref01_Mix.l0]
  rw [ref_rotr_6,ref_rotr_11,ref_rotr_25,ref_rotr_2,ref_rotr_13,ref_rotr_22]
  simp only [Option.bind_some]
  refine Ev.pos (by omega) (Ev.pos (by omega) (Ev.pos (by omega) (Ev.pos (by omega) ?_)))
  rw [wrap_succ _ (by omega)]
  have key:∀ x x' y y':Int,x=x'→y=y'→Ev (fun k=>mosaicref01_Mix.l0 k st ww kk x a b c y f g h ((t+1:Nat):Int)) (mixAdd st 8 0 (mixL kk ww d (t+1) [x',a,b,c,y',f,g,h])):=by
   rintro x _ y _ rfl rfl
   exact ih (t+1) _ _ _ _ _ _ _ _ (by omega)
  rw [mixL,mixStep]
  refine key _ _ _ _ ?_ ?_
  ·
   unfold s1N chN s0N majN
   rw [max_u32,rd_nat,rd_nat]
   omega
  ·
   unfold s1N chN
   rw [max_u32,rd_nat,rd_nat]
   omega
theorem mix_ev (st:List Int) (b:ByteArray) (hs:st.length=8) (hb:b.size=64):Ev (fun k=>mosaicref01_Mix.f k st b) (mixB st (bytesOf b)):=by
 unfold mosaicref01_Mix.f
 refine Ev.bind (words_ev b hb) (Ev.call (show mosaicref01_K.f=some constK from rfl) ?_)
 have:=mix_l0 st constK (sched (bytesOf b)) hs constK_len (sched_len _) 64 0 (rd st 0) (rd st 1) (rd st 2) (rd st 3) (rd st 4) (rd st 5) (rd st 6) (rd st 7) rfl
 refine Ev.pos (by omega) (Ev.pos (by omega) (Ev.pos (by omega) (Ev.pos (by omega) (Ev.pos (by omega) (Ev.pos (by omega) (Ev.pos (by omega) (Ev.pos (by omega) (this.to ?_))))))))
 obtain ⟨s0,s1,s2,s3,s4,s5,s6,s7,rfl⟩:=list8 st hs
 rfl
/-! ### The padding, the sum -/
theorem refpad_l0 (n:Int) (h0:0≤n) (h1:n≤65536) (d:Nat):∀ j:Nat,((119 - n % 64) % 64).toNat=j+d→Ev (fun k=>mosaicref01_Pad.l0 k n ([128] ++ List.replicate j 0)) (padB n):=by
 induction d with
 | zero =>
  intro j hj
  refine Ev.succ ?_
  simp only [mosaicref01_Pad.l0]
  have hl:(([128] ++ List.replicate j (0:Int)).length:Int)=1+j:=by simp;omega
  have e1:wrap64 (n+(1+(j:Int)))=n+(1+j):=by unfold wrap64;omega
  have e2:wrap64 (n+(1+(j:Int))+8)=n+(1+j)+8:=by unfold wrap64;omega
  have e3:Int.tmod (n+(1+(j:Int))+8) 64=(n+(1+j)+8) % 64:=Int.tmod_eq_emod_of_nonneg (by omega)
  have e4:wrap64 (8 * n)=8 * n:=by unfold wrap64;omega
  rw [hl,e1,e2,e3,e4]
  have q1:Int.tdiv (8 * n) 16777216=8 * n / 16777216:=Int.tdiv_eq_ediv_of_nonneg (by omega)
  have q2:Int.tdiv (8 * n) 65536=8 * n / 65536:=Int.tdiv_eq_ediv_of_nonneg (by omega)
  have q3:Int.tdiv (8 * n) 256=8 * n / 256:=Int.tdiv_eq_ediv_of_nonneg (by omega)
  rw [q1,q2,q3]
  have u1:wrap64 (8 * n / 16777216)=8 * n / 16777216:=by unfold wrap64;omega
  have u2:wrap64 (8 * n / 65536)=8 * n / 65536:=by unfold wrap64;omega
  have u3:wrap64 (8 * n / 256)=8 * n / 256:=by unfold wrap64;omega
  rw [u1,u2,u3]
  have m1:Int.tmod (8 * n / 65536) 256=8 * n / 65536 % 256:=Int.tmod_eq_emod_of_nonneg (by omega)
  have m2:Int.tmod (8 * n / 256) 256=8 * n / 256 % 256:=Int.tmod_eq_emod_of_nonneg (by omega)
  have m3:Int.tmod (8 * n) 256=8 * n % 256:=Int.tmod_eq_emod_of_nonneg (by omega)
  rw [m1,m2,m3]
  refine Ev.pos (by omega) (Ev.some_bind (Ev.pos (by simp;omega) (Ev.some_ ?_)))
  unfold padB padL
  rw [show ((119 - n % 64) % 64).toNat=j by omega]
  congr 1
  congr 1
  simp
 | succ d ih =>
  intro j hj
  refine Ev.succ ?_
  simp only [mosaicref01_Pad.l0]
  have hl:(([128] ++ List.replicate j (0:Int)).length:Int)=1+j:=by simp;omega
  have e1:wrap64 (n+(1+(j:Int)))=n+(1+j):=by unfold wrap64;omega
  have e2:wrap64 (n+(1+(j:Int))+8)=n+(1+j)+8:=by unfold wrap64;omega
  have e3:Int.tmod (n+(1+(j:Int))+8) 64=(n+(1+j)+8) % 64:=Int.tmod_eq_emod_of_nonneg (by omega)
  rw [hl,e1,e2,e3]
  refine Ev.neg (by omega) (Ev.pos (by simp;omega) ?_)
  have:=ih (j+1) (by omega)
  rw [List.replicate_succ',← List.append_assoc] at this
  exact this
theorem refpad_ev (n:Int) (h0:0≤n) (h1:n≤65536):Ev (fun k=>mosaicref01_Pad.f k n) (padB n):=by
 unfold mosaicref01_Pad.f
 refine Ev.neg (by omega) ?_
 rw [decide_eq_false (show ¬ n > 65536 by omega)]
 refine Ev.succ ?_
 simp only [mosaicref01_Pad.j0]
 exact Ev.neg (by simp) (refpad_l0 n h0 h1 _ 0 (Nat.zero_add _).symm)
theorem bytesOf_append (s t:ByteArray):bytesOf (s ++ t)=bytesOf s ++ bytesOf t:=by
 unfold bytesOf
 rw [ByteArray.data_append,Array.toList_append,List.map_append]
theorem bytesOf_extract (s:ByteArray) (a b:Nat):bytesOf (s.extract a b)=((bytesOf s).drop a).take (b - a):=by
 unfold bytesOf
 rw [ByteArray.data_extract,Array.toList_extract,List.map_take,List.map_drop]
theorem blocks_more:∀ (k k':Nat) (st l:List Int),l.length≤64 * k→l.length≤64 * k'→blocks k st l=blocks k' st l
 | 0,0,_,_,_,_=>rfl
 | 0,k'+1,st,l,h,_=>by rw [blocks,blocks,if_neg (by omega)]
 | k+1,0,st,l,_,h=>by rw [blocks,blocks,if_neg (by omega)]
 | k+1,k'+1,st,l,h,h'=>by
  rw [blocks,blocks,blocks_more k k' _ _ (by rw [List.length_drop];omega) (by rw [List.length_drop];omega)]
theorem hashGo_blocks:∀ (k:Nat) (st p:List Int) (s:ByteArray) (pad:List Int) (K:Nat),s.size < k→p.length < 64→pad.length≤72→p.length+s.size+pad.length≤64 * K →
  blocks 3 (hashGo k st p s).1 ((hashGo k st p s).2 ++ pad)=blocks K st (p ++ bytesOf s ++ pad)
 | 0,st,p,s,pad,K,h,_,_,_=>by omega
 | k+1,st,p,s,pad,K,h,hp,hd,hK=>by
  have hl:(p ++ bytesOf (s.extract 0 (min (64 - p.length) s.size))).length=p.length+min (64 - p.length) s.size:=by
   rw [List.length_append,bytesOf_length]
   simp
  have hs:=bytesOf_length s
  rw [hashGo]
  by_cases c:(p ++ bytesOf (s.extract 0 (min (64 - p.length) s.size))).length=64
  ·
   rw [if_pos c]
   have h2:(s.extract (min (64 - p.length) s.size) s.size).size=s.size - min (64 - p.length) s.size:=by simp
   obtain ⟨K,rfl⟩:∃ m,K=m+1:=⟨K - 1,by omega⟩
   rw [hashGo_blocks k _ [] _ pad K (by omega) (by simp) hd (by simp only [List.length_nil];omega)]
   have hm:min (64 - p.length) s.size=64 - p.length:=by omega
   rw [blocks,if_pos (by simp only [List.length_append];omega)]
   rw [hm,bytesOf_extract,bytesOf_extract,List.drop_zero,Nat.sub_zero,List.nil_append]
   have e1:((bytesOf s).drop (64 - p.length)).take (s.size - (64 - p.length))=(bytesOf s).drop (64 - p.length):=List.take_of_length_le (by rw [List.length_drop,hs];omega)
   rw [e1]
   have e2:(p ++ bytesOf s ++ pad).take 64=p ++ (bytesOf s).take (64 - p.length):=by
    rw [List.append_assoc,List.take_append,List.take_of_length_le (by omega),List.take_append,show 64 - p.length - (bytesOf s).length=0 by omega,List.take_zero,List.append_nil]
   have e3:(p ++ bytesOf s ++ pad).drop 64=(bytesOf s).drop (64 - p.length) ++ pad:=by
    rw [List.append_assoc,List.drop_append,List.drop_of_length_le (by omega),List.nil_append,List.drop_append,show 64 - p.length - (bytesOf s).length=0 by omega,List.drop_zero]
   rw [e2,e3]
  ·
   rw [if_neg c]
   have hm:min (64 - p.length) s.size=s.size:=by omega
   have e:bytesOf (s.extract 0 (min (64 - p.length) s.size))=bytesOf s:=by
    rw [hm,bytesOf_extract,List.drop_zero,Nat.sub_zero]
    exact List.take_of_length_le (by omega)
   rw [e]
   refine blocks_more _ _ _ _ ?_ ?_
   ·
    simp only [List.length_append]
    omega
   ·
    simp only [List.length_append]
    omega
theorem bytesOf_strOfNums (l:List Int) (h:∀ x∈l,0≤x∧x≤255):bytesOf (strOfNums l)=l:=by
 unfold bytesOf
 rw [strOfNums_data,List.map_map]
 conv=>rhs;rw [← List.map_id l]
 refine List.map_congr_left fun x hx=>?_
 have:=h x hx
 have e:(UInt8.ofNat x.toNat).toNat=x.toNat:=UInt8.toNat_ofNat_of_lt' (by show x.toNat < 256;omega)
 simp only [Function.comp,e,id]
 omega
/-- The sum, block by block. -/
theorem shaSum_eq (s:ByteArray) (h:s.size≤65536) (K:Nat) (hK:s.size+72≤64 * K):shaSum s=strOfNums (outB (blocks K startS (bytesOf s ++ padL s.size))):=by
 have hl:=padL_length (s.size:Int) (by omega)
 unfold shaSum
 rw [padB,bytesOf_strOfNums _ (padL_range _),hashGo_blocks (s.size+1) startS [] s (padL s.size) K (by omega) (by simp) (by omega) (by simp only [List.length_nil];omega),List.nil_append]
theorem refsum_l1 (st acc:List Int) (hs:st.length=8) (d:Nat):∀ (i:Nat) (acc:List Int),i+d=8→acc.length=4 * i→Ev (fun k=>mosaicref01_Sum.l1 k st acc (i:Int)) (strOfNums (acc ++ outB (st.drop i))):=by
 induction d with
 | zero =>
  intro i acc hi ha
  refine Ev.succ ?_
  simp only [mosaicref01_Sum.l1]
  refine Ev.neg (by omega) (Ev.some_ ?_)
  rw [List.drop_of_length_le (by omega)]
  simp [outB]
 | succ d ih =>
  intro i acc hi ha
  refine Ev.succ ?_
  simp only [mosaicref01_Sum.l1]
  refine Ev.pos (by omega) (Ev.pos (by omega) (Ev.some_bind (Ev.pos (by simp;omega) ?_)))
  rw [wrap_succ _ (by omega),outB_step st i (by omega),← List.append_assoc,rd_nat]
  exact ih (i+1) _ (by omega) (by simp;omega)
theorem refsum_l0 (t:ByteArray) (ht:t.size≤100000) (d:Nat):∀ (st:List Int) (i:Nat),t.size=i+64 * d→st.length=8→Ev (fun k=>mosaicref01_Sum.l0 k t st (i:Int)) (strOfNums (outB (blocks d st ((bytesOf t).drop i)))):=by
 induction d with
 | zero =>
  intro st i hi hs
  refine Ev.succ ?_
  simp only [mosaicref01_Sum.l0,blocks]
  refine Ev.neg (by omega) ?_
  have:=refsum_l1 st [] hs 8 0 [] rfl rfl
  simpa using this
 | succ d ih =>
  intro st i hi hs
  refine Ev.succ ?_
  simp only [mosaicref01_Sum.l0]
  have e1:wrap64 ((i:Int)+64)=((i+64:Nat):Int):=by unfold wrap64;omega
  have hl:=bytesOf_length t
  rw [e1]
  refine Ev.pos (by omega) (Ev.pos (by omega) (Ev.pos (by omega) (Ev.pos (by omega) ?_)))
  have hx:(t.extract ((i:Int)).toNat (((i+64:Nat):Int)).toNat).size=64:=by simp;omega
  have hm:=mix_ev st _ hs hx
  refine Ev.bind hm ?_
  have hb:bytesOf (t.extract ((i:Int)).toNat (((i+64:Nat):Int)).toNat)=((bytesOf t).drop i).take 64:=by
   rw [bytesOf_extract]
   congr 1
   omega
  rw [hb,blocks,if_pos (by rw [List.length_drop];omega),List.drop_drop]
  exact ih _ (i+64) (by omega) (mixB_len _ _ hs)
/-- The reference's sum is the program's. -/
theorem refsum_ev (s:ByteArray) (h:s.size≤65536):Ev (fun k=>mosaicref01_Sum.f k s) (shaSum s):=by
 have hp:=padB_size (s.size:Int) (by omega)
 have hz:(s ++ padB s.size).size=s.size+(padB s.size).size:=by rw [ByteArray.size_append]
 unfold mosaicref01_Sum.f
 refine Ev.neg (by omega) (Ev.bind (refpad_ev _ (by omega) (by omega)) (Ev.pos (by omega) (Ev.call (show mosaicref01_Start.f=some startS from rfl) ?_)))
 have:=refsum_l0 (s ++ padB s.size) (by omega) ((s ++ padB s.size).size / 64) startS 0 (by omega) rfl
 refine this.to ?_
 rw [shaSum_eq s h ((s.size+72) / 64+1) (by omega),List.drop_zero,bytesOf_append,padB,bytesOf_strOfNums _ (padL_range _)]
 have hl:=padL_length (s.size:Int) (by omega)
 have hb:=bytesOf_length s
 congr 2
 refine blocks_more _ _ _ _ ?_ ?_
 ·
  rw [List.length_append]
  rw [← padB,hz]
  omega
 ·
  rw [List.length_append]
  omega
theorem outB_length (st:List Int):(outB st).length=4 * st.length:=by
 induction st with
 | nil=>rfl
 | cons a l ih=>rw [outB,List.flatMap_cons,List.length_append,← outB,ih];simp;omega
theorem blocks_len:∀ (k:Nat) (st l:List Int),st.length=8→(blocks k st l).length=8
 | 0,_,_,h=>h
 | k+1,st,l,h=>by
  rw [blocks]
  split
  ·
   exact blocks_len k _ _ (mixB_len _ _ h)
  ·
   exact h
theorem shaSum_size (s:ByteArray):(shaSum s).size=32:=by
 unfold shaSum
 rw [strOfNums_size,outB_length,blocks_len _ _ _ (hashGo_len _ _ _ _ (by omega) (by simp) rfl).1]
theorem sha_f (s:ByteArray) (h:s.size≤65536):sha_Sum.f s=some (shaSum s):=if_pos h
end Go.Proofs.Ytelcaepenfjloaa.Pure
/-! #### PureMer1 -/
/- Trees of sums in plain words: the levels' pairs come to the root that halves come to; paths and their lengths. -/
namespace Go.Proofs.Ytelcaepenfjloaa.Pure
open Go.RowKit Go.Proofs.Ytelcaepenfjloaa.Print Go.Proofs.YtelcaepenfjloaaW.PrintWords Go.Proofs.YtelcaepenfjloaaW.PrintLast Go.Proofs.YtelcaepenfjloaaW.PrintMore
set_option linter.unusedVariables false
set_option linter.unusedSimpArgs false
def leafT (s:ByteArray):ByteArray:=(⟨#[0]⟩:ByteArray) ++ s
def knotT (l r:ByteArray):ByteArray:=((⟨#[1]⟩:ByteArray) ++ l) ++ r
def leafD (s:ByteArray):ByteArray:=shaSum (leafT s)
def knotD (l r:ByteArray):ByteArray:=shaSum (knotT l r)
theorem leafT_size (s:ByteArray):(leafT s).size=1+s.size:=by
 rw [leafT,ByteArray.size_append]
 rfl
theorem knotT_size (l r:ByteArray):(knotT l r).size=1+l.size+r.size:=by
 rw [knotT,ByteArray.size_append,ByteArray.size_append]
 rfl
theorem leafD_size (s:ByteArray):(leafD s).size=32:=shaSum_size _
theorem knotD_size (l r:ByteArray):(knotD l r).size=32:=shaSum_size _
theorem leaf_f (s:ByteArray) (h:s.size≤65535):merkle_Leaf.f s=some (leafD s):=by
 have hz:=leafT_size s
 unfold merkle_Leaf.f
 rw [if_pos (by omega)]
 show (sha_Sum.f (leafT s)).bind _=_
 rw [sha_f _ (by omega)]
 rfl
theorem knot_f (l r:ByteArray) (h:l.size+r.size≤65535):merkle_knot.f l r=some (knotT l r):=by
 have h1:((⟨#[1]⟩:ByteArray) ++ l).size=1+l.size:=by
  rw [ByteArray.size_append]
  rfl
 unfold merkle_knot.f
 rw [if_pos (by omega),if_pos (by omega)]
 rfl
theorem Knot_f (l r:ByteArray) (h:l.size+r.size≤65535):merkle_Knot.f l r=some (knotD l r):=by
 have hz:=knotT_size l r
 unfold merkle_Knot.f
 rw [knot_f l r h]
 simp only [Option.bind_some]
 rw [sha_f _ (by omega)]
 rfl
theorem leafText_f (s:ByteArray) (h:s.size≤65535):mosaicref03_LeafText.f s=some (leafT s):=by
 unfold mosaicref03_LeafText.f
 rw [if_pos (by omega)]
 rfl
theorem knotText_f (l r:ByteArray) (h:l.size+r.size≤65535):mosaicref03_KnotText.f l r=some (knotT l r):=by
 have h1:((⟨#[1]⟩:ByteArray) ++ l).size=1+l.size:=by
  rw [ByteArray.size_append]
  rfl
 unfold mosaicref03_KnotText.f
 rw [if_pos (by omega),if_pos (by omega)]
 rfl
/-! ### Halves -/
def halfN (n:Nat):Nat:=2 ^ (n - 1).log2
theorem halfN_lt (n:Nat) (h:2≤n):halfN n < n:=by
 have:=Nat.log2_self_le (show n - 1≠0 by omega)
 unfold halfN
 omega
theorem halfN_pos (n:Nat):1≤halfN n:=Nat.one_le_two_pow
theorem halfN_ge (n:Nat):n≤2 * halfN n:=by
 have:=Nat.lt_log2_self (n:=n - 1)
 rw [Nat.pow_succ] at this
 unfold halfN
 omega
theorem halfN_two (n:Nat) (h:3≤n):halfN n=2 * halfN ((n+1) / 2):=by
 unfold halfN
 rw [show (n+1) / 2 - 1=(n - 1) / 2 by omega]
 conv=>lhs;rw [Nat.log2_def,if_pos (by omega),Nat.pow_succ]
 omega
theorem half_l0 (n:Nat) (h:2≤n) (hn:n≤100000) (d:Nat):∀ j:Nat,j+d=(n - 1).log2→Ev (fun k=>mosaicref03_half.l0 k (n:Int) ((2 ^ j:Nat):Int)) ((halfN n:Nat):Int):=by
 have hlt:=halfN_lt n h
 have hge:=halfN_ge n
 induction d with
 | zero =>
  intro j hj
  have e:halfN n=2 ^ j:=by unfold halfN;rw [← hj];rfl
  refine Ev.succ ?_
  simp only [mosaicref03_half.l0]
  generalize 2 ^ j=x at e ⊢
  have w:wrap64 ((x:Int) * 2)=(x:Int) * 2:=by unfold wrap64;omega
  rw [w]
  exact Ev.neg (by omega) (Ev.some_ (by rw [e]))
 | succ d ih =>
  intro j hj
  have:=ih (j+1) (by omega)
  have hle:2 ^ (j+1)≤halfN n:=Nat.pow_le_pow_right (by decide) (by omega)
  rw [Nat.pow_succ] at this hle
  refine Ev.succ ?_
  simp only [mosaicref03_half.l0]
  generalize 2 ^ j=x at this hle ⊢
  have w:wrap64 ((x:Int) * 2)=((x * 2:Nat):Int):=by unfold wrap64;omega
  rw [w]
  exact Ev.pos (by omega) this
theorem half_ev (n:Nat) (h:2≤n) (hn:n≤100000):Ev (fun k=>mosaicref03_half.f k (n:Int)) ((halfN n:Nat):Int):=half_l0 n h hn _ 0 (Nat.zero_add _)
/-! ### Pairs -/
def pairsM:List ByteArray→List ByteArray
 | []=>[]
 | [a]=>[a]
 | a :: b :: l=>knotD a b :: pairsM l
theorem pairsM_length:∀ l:List ByteArray,(pairsM l).length=(l.length+1) / 2
 | []=>by simp [pairsM]
 | [_]=>by simp [pairsM]
 | _ :: _ :: l=>by
  rw [pairsM,List.length_cons,pairsM_length l]
  simp
  omega
theorem pairsM_append:∀ a b:List ByteArray,a.length % 2=0→pairsM (a ++ b)=pairsM a ++ pairsM b
 | [],_,_=>rfl
 | [_],_,h=>by simp at h
 | x :: y :: a,b,h=>by
  show knotD x y :: pairsM (a ++ b)=_
  rw [pairsM_append a b (by simp at h;omega)]
  rfl
theorem pairsM_size:∀ l:List ByteArray,(∀ x∈l,x.size=32)→∀ x∈pairsM l,x.size=32
 | [],_,x,h=>by simp [pairsM] at h
 | [a],h,x,hx=>h x hx
 | a :: b :: l,h,x,hx=>by
  rcases List.mem_cons.1 hx with rfl|hx
  ·
   exact knotD_size _ _
  ·
   exact pairsM_size l (fun y hy=>h y (by simp [hy])) x hx
/-! ### The root, by halves -/
def topM (l:List ByteArray):ByteArray :=
 if h:l.length≤1 then l.headD ByteArray.empty
 else knotD (topM (l.take (halfN l.length))) (topM (l.drop (halfN l.length)))
termination_by l.length
decreasing_by
 ·
  have:=halfN_lt l.length (by omega)
  rw [List.length_take]
  omega
 ·
  have:=halfN_pos l.length
  rw [List.length_drop]
  omega
theorem topM_one (a:ByteArray):topM [a]=a:=by
 rw [topM]
 rfl
theorem topM_two (l:List ByteArray) (h:2≤l.length):topM l=knotD (topM (l.take (halfN l.length))) (topM (l.drop (halfN l.length))):=by
 conv=>lhs;rw [topM]
 rw [dif_neg (by omega)]
theorem list1 (l:List ByteArray) (h:l.length=1):∃ a,l=[a]:=by
 match l,h with
 | [a],_=>exact ⟨a,rfl⟩
theorem list2 (l:List ByteArray) (h:l.length=2):∃ a b,l=[a,b]:=by
 match l,h with
 | [a,b],_=>exact ⟨a,b,rfl⟩
theorem halfN_2:halfN 2=1:=by decide
/-- A level's pairs, cut where the level is cut. -/
theorem pairs_cut (l:List ByteArray) (h:3≤l.length):(pairsM l).take (halfN (pairsM l).length)=pairsM (l.take (halfN l.length))∧(pairsM l).drop (halfN (pairsM l).length)=pairsM (l.drop (halfN l.length)):=by
 have h2:=halfN_two l.length h
 have hlt:=halfN_lt l.length (by omega)
 have e:pairsM l=pairsM (l.take (halfN l.length)) ++ pairsM (l.drop (halfN l.length)):=by
  rw [← pairsM_append _ _ (by rw [List.length_take];omega),List.take_append_drop]
 have hl:(pairsM (l.take (halfN l.length))).length=halfN (pairsM l).length:=by
  rw [pairsM_length,pairsM_length,List.length_take]
  omega
 constructor
 ·
  rw [← hl]
  conv=>lhs;rw [e]
  exact List.take_left
 ·
  rw [← hl]
  conv=>lhs;rw [e]
  exact List.drop_left
theorem pairs_top (n:Nat):∀ l:List ByteArray,l.length=n→1≤n→topM (pairsM l)=topM l:=by
 induction n using Nat.strongRecOn with
 | _ n ih =>
  intro l hl hn
  by_cases h1:n=1
  ·
   obtain ⟨a,rfl⟩:=list1 l (by omega)
   rfl
  by_cases h2:n=2
  ·
   obtain ⟨a,b,rfl⟩:=list2 l (by omega)
   rw [topM_two [a,b] (by simp)]
   show topM [knotD a b]=knotD (topM ([a,b].take (halfN 2))) (topM ([a,b].drop (halfN 2)))
   rw [halfN_2]
   show topM [knotD a b]=knotD (topM [a]) (topM [b])
   rw [topM_one,topM_one,topM_one]
  have hlt:=halfN_lt l.length (by omega)
  have hps:=halfN_pos l.length
  obtain ⟨e1,e2⟩:=pairs_cut l (by omega)
  rw [topM_two (pairsM l) (by rw [pairsM_length];omega),e1,e2,ih (l.take (halfN l.length)).length (by rw [List.length_take];omega) _ rfl (by rw [List.length_take];omega),
   ih (l.drop (halfN l.length)).length (by rw [List.length_drop];omega) _ rfl (by rw [List.length_drop];omega),topM_two l (by omega)]
/-! ### The path of a leaf -/
def sib (i:Nat):Nat:=if i % 2=0 then i+1 else i - 1
theorem sib_xor (i:Nat) (h:i < 256):Go.bits .xor .i64 (i:Int) 1=(sib i:Int):=by
 have:∀ i:Fin 256,Go.bits .xor .i64 (i.val:Int) 1=(sib i.val:Int):=by decide +kernel
 exact this ⟨i,h⟩
def wayM (l:List ByteArray) (i:Nat):List ByteArray :=
 if h:l.length≤1 then []
 else if i < halfN l.length then wayM (l.take (halfN l.length)) i ++ [topM (l.drop (halfN l.length))]
 else wayM (l.drop (halfN l.length)) (i - halfN l.length) ++ [topM (l.take (halfN l.length))]
termination_by l.length
decreasing_by
 ·
  have:=halfN_lt l.length (by omega)
  rw [List.length_take]
  omega
 ·
  have:=halfN_pos l.length
  rw [List.length_drop]
  omega
theorem wayM_one (a:ByteArray) (i:Nat):wayM [a] i=[]:=by
 rw [wayM]
 rfl
theorem wayM_left (l:List ByteArray) (i:Nat) (h:2≤l.length) (hi:i < halfN l.length):wayM l i=wayM (l.take (halfN l.length)) i ++ [topM (l.drop (halfN l.length))]:=by
 conv=>lhs;rw [wayM]
 rw [dif_neg (by omega),if_pos hi]
theorem wayM_right (l:List ByteArray) (i:Nat) (h:2≤l.length) (hi:¬ i < halfN l.length):wayM l i=wayM (l.drop (halfN l.length)) (i - halfN l.length) ++ [topM (l.take (halfN l.length))]:=by
 conv=>lhs;rw [wayM]
 rw [dif_neg (by omega),if_neg hi]
def sibL (l:List ByteArray) (i:Nat):List ByteArray:=if sib i < l.length then [l.getD (sib i) ByteArray.empty] else []
theorem getD_take {α:Type} (l:List α) (k i:Nat) (d:α) (h:i < k):(l.take k).getD i d=l.getD i d:=by
 simp [List.getD_eq_getElem?_getD,List.getElem?_take,h]
theorem getD_drop {α:Type} (l:List α) (k i:Nat) (d:α):(l.drop k).getD i d=l.getD (k+i) d:=by
 simp [List.getD_eq_getElem?_getD,List.getElem?_drop]
theorem way_step (n:Nat):∀ (l:List ByteArray) (i:Nat),l.length=n→2≤n→i < n→wayM l i=sibL l i ++ wayM (pairsM l) (i / 2):=by
 induction n using Nat.strongRecOn with
 | _ n ih =>
  intro l i hl hn hi
  by_cases h2:n=2
  ·
   obtain ⟨a,b,rfl⟩:=list2 l (by omega)
   have hh:halfN [a,b].length=1:=halfN_2
   rcases (by omega:i=0∨i=1) with rfl|rfl
   ·
    rw [wayM_left _ _ (by simp) (by rw [hh];omega),hh]
    show wayM [a] 0 ++ [topM [b]]=[b] ++ wayM [knotD a b] 0
    rw [wayM_one,wayM_one,topM_one]
    rfl
   ·
    rw [wayM_right _ _ (by simp) (by rw [hh];omega),hh]
    show wayM [b] 0 ++ [topM [a]]=[a] ++ wayM [knotD a b] 0
    rw [wayM_one,wayM_one,topM_one]
    rfl
  have hlt:=halfN_lt l.length (by omega)
  have hps:=halfN_pos l.length
  have hge:=halfN_ge l.length
  have ht:=halfN_two l.length (by omega)
  have hpl:=pairsM_length l
  have hhp:halfN (pairsM l).length=halfN ((l.length+1) / 2):=by rw [hpl]
  have hp1:=halfN_pos ((l.length+1) / 2)
  obtain ⟨e1,e2⟩:=pairs_cut l (by omega)
  have hsib:sib i / 2=i / 2:=by unfold sib;split <;> omega
  by_cases hc:i < halfN l.length
  ·
   have hsk:sib i < halfN l.length:=by unfold sib;split <;> omega
   rw [wayM_left l i (by omega) hc,wayM_left (pairsM l) (i / 2) (by omega) (by omega),e1,e2,pairs_top _ _ rfl (by rw [List.length_drop];omega)]
   rw [ih (l.take (halfN l.length)).length (by rw [List.length_take];omega) _ i rfl (by rw [List.length_take];omega) (by rw [List.length_take];omega),List.append_assoc]
   congr 1
   unfold sibL
   rw [List.length_take,if_pos (by omega),if_pos (by omega),getD_take _ _ _ _ hsk]
  ·
   rw [wayM_right l i (by omega) hc,wayM_right (pairsM l) (i / 2) (by omega) (by omega),e1,e2,pairs_top _ _ rfl (by rw [List.length_take];omega)]
   have hs:sib (i - halfN l.length)+halfN l.length=sib i:=by
    unfold sib
    split
    ·
     rw [if_pos (by omega)]
     omega
    ·
     rw [if_neg (by omega)]
     omega
   by_cases h1:(l.drop (halfN l.length)).length=1
   ·
    obtain ⟨a,ha⟩:=list1 _ h1
    rw [List.length_drop] at h1
    have e0:i - halfN l.length=0:=by omega
    have hd:i / 2 - halfN (pairsM l).length=0:=by omega
    rw [ha,e0,hd]
    show wayM [a] 0 ++ _=_ ++ (wayM [a] 0 ++ _)
    rw [wayM_one]
    have:sibL l i=[]:=by
     unfold sibL
     rw [if_neg]
     have:sib 0=1:=rfl
     rw [e0,this] at hs
     omega
    rw [this]
    rfl
   ·
    rw [List.length_drop] at h1
    rw [ih (l.drop (halfN l.length)).length (by rw [List.length_drop];omega) _ (i - halfN l.length) rfl (by rw [List.length_drop];omega) (by rw [List.length_drop];omega),List.append_assoc]
    rw [show (i - halfN l.length) / 2=i / 2 - halfN (pairsM l).length by omega]
    congr 1
    unfold sibL
    rw [List.length_drop,getD_drop,Nat.add_comm,hs]
    by_cases hz:sib i < l.length
    ·
     rw [if_pos hz,if_pos (by omega)]
    ·
     rw [if_neg hz,if_neg (by omega)]
/-! ### How long a path is -/
end Go.Proofs.Ytelcaepenfjloaa.Pure
/-! #### Pr47 -/
namespace Go.Proofs.Ytelcaepenfjloaa.Print
open Go.RowKit Go.Proofs.YtelcaepenfjloaaW.PrintWords Go.Proofs.YtelcaepenfjloaaW.PrintLast Go.Proofs.YtelcaepenfjloaaW.PrintMore
attribute [local go_sem] max2_int min2_int max_two min_two max_three min_three max_four min_four
set_option linter.unusedVariables false
set_option linter.unusedSimpArgs false
/-! ### mosaicref03_Root: function 47 -/
def mosaicref03_Root.f (k:Nat) (l0:List ByteArray):Option (ByteArray×Int):=(mosaicref03_May.f k l0).bind fun t315=>(if t315=0 then ((mosaicref03_Top.f k l0).bind fun t316=>(some (t316,0))) else (some ((⟨#[]⟩:ByteArray),t315)))
theorem mosaicref03_Root.mono:∀ a0 k,LeO (mosaicref03_Root.f k a0) (mosaicref03_Root.f (k+1) a0):=by
 intro a0 k
 unfold mosaicref03_Root.f
 repeat' first
   | (with_reducible exact mosaicref03_May.mono _ _)
   | (with_reducible exact mosaicref03_Top.mono _ _)
   | (with_reducible exact LeO.refl _)
   | (with_reducible exact LeO.none _)
   | (with_reducible refine LeO.ite ?_ ?_)
   | (with_reducible refine LeO.bind ?_ (fun _=>?_))
   | exact mosaicref03_May.mono _ _
   | exact mosaicref03_Top.mono _ _
   | exact LeO.none _
   | refine LeO.ite ?_ ?_
   | refine LeO.bind ?_ (fun _=>?_)
set_option maxHeartbeats 8000000 in
set_option maxRecDepth 100000 in
theorem mosaicref03_Root.calls (k:Nat) (A0:Option Addr) (c0:Nat) (l0:List ByteArray) (r1:ByteArray) (r2:Int) (w:World) (hr0:Kd.C Kd.string w A0 l0.length l0) (hc0:l0.length≤c0) (h:mosaicref03_Root.f k l0=some (r1,r2)) :
  Calls Try.prog 47 #[.slice A0 l0.length c0] w fun e w'=>e=.returned (.tuple #[.string r1,.int .i64 r2])∧Below w.heap.size w w':=by
 have HR0:=Aside0.mk hr0
 have HC0:=Aside0.mk hc0
 clear hr0 hc0
 have HB:=Aside0.mk (Below.refl w.heap.size w)
 have H:((mosaicref03_May.f k l0).bind fun t315=>(if t315=0 then ((mosaicref03_Top.f k l0).bind fun t316=>(some (t316,0))) else (some ((⟨#[]⟩:ByteArray),t315))))=some (r1,r2):=h
 clear h
 replace H:=Option.bind_eq_some_iff.mp H
 obtain ⟨t315,A20,H⟩:=H
 replace H:(if t315=0 then ((mosaicref03_Top.f k l0).bind fun t316=>(some (t316,0))) else (some ((⟨#[]⟩:ByteArray),t315)))=some (r1,r2):=H
 have A2:=Aside0.mk A20
 clear A20
 by_cases c3:t315=0
 ·
  rw [if_pos c3] at H
  have c3b0:(t315 == 0)=true:=beq_iff_eq.mpr c3
  have c3b1:(t315 != 0)=false:=bne_eq_false_iff_eq.mpr c3
  clear c3
  replace H:=Option.bind_eq_some_iff.mp H
  obtain ⟨t316,A40,H⟩:=H
  replace H:(some (t316,0))=some (r1,r2):=H
  have A4:=Aside0.mk A40
  clear A40
  simp only [Option.some.injEq,Prod.mk.injEq] at H
  obtain ⟨rfl,rfl⟩:=H
  go_enter Try.func47,Try.ntmps47
  go_wp2_with (first|((with_reducible refine gate_callee (f:=94) rfl ?_);refine goesL_ (some 6) rfl rfl Try.func94 (by kernel_rfl) rfl #[.slice A0 l0.length c0] rfl (by (try simp only [List.map_toArray,List.map_cons,List.map_nil]);first|done|rfl|(simp only [List.length_drop,List.length_take];rfl)) ?_;(with_reducible refine (mosaicref03_May.calls k _ _ l0 t315 _ ?side1 ?side2 A2.out).mono ?_);(case side1=>repeat (first|exact HR0.out|(with_reducible refine Kd.C_alloc ?_ _)|(with_reducible refine Kd.C_drewN ?_ _)|(with_reducible refine Kd.C_drew ?_)));(case side2=>exact HC0.out);rintro e w' ⟨rfl,⟨nd,rfl⟩⟩;refine ⟨_,rfl,?_⟩)|((with_reducible refine gate_callee (f:=95) rfl ?_);refine goesL_ (some 11) rfl rfl Try.func95 (by kernel_rfl) rfl #[.slice A0 l0.length c0] rfl (by (try simp only [List.map_toArray,List.map_cons,List.map_nil]);first|done|rfl|(simp only [List.length_drop,List.length_take];rfl)) ?_;(with_reducible refine (mosaicref03_Top.calls k _ _ l0 t316 _ ?side1 ?side2 A4.out).mono ?_);(case side1=>repeat (first|exact HR0.out|(with_reducible refine Kd.C_alloc ?_ _)|(with_reducible refine Kd.C_drewN ?_ _)|(with_reducible refine Kd.C_drew ?_)));(case side2=>exact HC0.out);rintro e w5 ⟨rfl,hb⟩;refine ⟨_,rfl,?_⟩;have n0_:=Aside0.mk (below_step (by repeat (first|(with_reducible first|exact HB.out|apply below_alloc|apply pw_below_drewN|apply below_drew1)|exact HB.out)) hb);clear HB;have HB:=n0_;clear n0_;(try clear hb);(try clear hb2);(try clear hk);(try clear hi)))
  go_ret2
  exact ⟨by first|rfl|(simp [errW_none,errW_some] <;> rfl)|(simp [*,errW_none,errW_some] <;> rfl),by repeat (first|(with_reducible first|exact HB.out|apply below_alloc|apply pw_below_drewN|apply below_drew1)|exact HB.out)⟩
 ·
  rw [if_neg c3] at H
  have c3b0:(t315 == 0)=false:=beq_eq_false_iff_ne.mpr c3
  have c3b1:(t315 != 0)=true:=bne_iff_ne.mpr c3
  simp only [Option.some.injEq,Prod.mk.injEq] at H
  obtain ⟨rfl,rfl⟩:=H
  go_enter Try.func47,Try.ntmps47
  go_wp2_with (first|((with_reducible refine gate_callee (f:=94) rfl ?_);refine goesL_ (some 6) rfl rfl Try.func94 (by kernel_rfl) rfl #[.slice A0 l0.length c0] rfl (by (try simp only [List.map_toArray,List.map_cons,List.map_nil]);first|done|rfl|(simp only [List.length_drop,List.length_take];rfl)) ?_;(with_reducible refine (mosaicref03_May.calls k _ _ l0 t315 _ ?side1 ?side2 A2.out).mono ?_);(case side1=>repeat (first|exact HR0.out|(with_reducible refine Kd.C_alloc ?_ _)|(with_reducible refine Kd.C_drewN ?_ _)|(with_reducible refine Kd.C_drew ?_)));(case side2=>exact HC0.out);rintro e w' ⟨rfl,⟨nd,rfl⟩⟩;refine ⟨_,rfl,?_⟩))
  go_ret2
  exact ⟨by first|rfl|(simp [errW_none,errW_some] <;> rfl)|(simp [*,errW_none,errW_some] <;> rfl),by repeat (first|(with_reducible first|exact HB.out|apply below_alloc|apply pw_below_drewN|apply below_drew1)|exact HB.out)⟩
end Go.Proofs.Ytelcaepenfjloaa.Print
/-! #### Pr98 -/
namespace Go.Proofs.Ytelcaepenfjloaa.Print
open Go.RowKit Go.Proofs.YtelcaepenfjloaaW.PrintWords Go.Proofs.YtelcaepenfjloaaW.PrintLast Go.Proofs.YtelcaepenfjloaaW.PrintMore
attribute [local go_sem] max2_int min2_int max_two min_two max_three min_three max_four min_four
set_option linter.unusedVariables false
set_option linter.unusedSimpArgs false
/-! ### mosaicref03_way: function 98 -/
def mosaicref03_way.f:Nat→List ByteArray→Int→Option (List ByteArray)
 | 0,_,_=>none
 | k+1,l0,a1=>if (l0.length:Int)=1 then (some ([]:List ByteArray)) else ((mosaicref03_half.f k (l0.length:Int)).bind fun t336=>(if a1 < t336 then (if 0≤t336 then (if t336≤(l0.length:Int) then ((mosaicref03_way.f k (l0.take (t336:Int).toNat) a1).bind fun t338=>((mosaicref03_Top.f k (l0.drop (t336:Int).toNat)).bind fun t342=>(if t338.length < 8796093022208 then (some (t338 ++ [t342])) else (none)))) else (none)) else (none)) else (if 0≤t336 then (if t336≤(l0.length:Int) then ((mosaicref03_way.f k (l0.drop (t336:Int).toNat) (wrap64 (a1 - t336))).bind fun t347=>((mosaicref03_Top.f k (l0.take (t336:Int).toNat)).bind fun t351=>(if t347.length < 8796093022208 then (some (t347 ++ [t351])) else (none)))) else (none)) else (none))))
theorem mosaicref03_way.mono_l:∀ k,(∀ y0 y1,LeO (mosaicref03_way.f k y0 y1) (mosaicref03_way.f (k+1) y0 y1))
 | 0=>fun _ _ r h=>by simp [mosaicref03_way.f] at h
 | k+1=>by
  have ih0:=mosaicref03_way.mono_l k
  ·
   intro y0 y1
   unfold mosaicref03_way.f
   repeat' first
   | (with_reducible exact ih0 _ _)
   | (with_reducible exact mosaicref03_Top.mono _ _)
   | (with_reducible exact mosaicref03_half.mono _ _)
   | (with_reducible exact LeO.refl _)
   | (with_reducible exact LeO.none _)
   | (with_reducible refine LeO.ite ?_ ?_)
   | (with_reducible refine LeO.bind ?_ (fun _=>?_))
   | exact ih0 _ _
   | exact mosaicref03_Top.mono _ _
   | exact mosaicref03_half.mono _ _
   | exact LeO.none _
   | refine LeO.ite ?_ ?_
   | refine LeO.bind ?_ (fun _=>?_)
theorem mosaicref03_way.mono:∀ a0 a1 k,LeO (mosaicref03_way.f k a0 a1) (mosaicref03_way.f (k+1) a0 a1):=by
 intro a0 a1 k
 have ih0:=mosaicref03_way.mono_l k
 exact ih0 a0 a1
set_option maxHeartbeats 8000000 in
set_option maxRecDepth 100000 in
theorem mosaicref03_way.calls (k:Nat):∀ (A0:Option Addr) (c0:Nat) (l0:List ByteArray) (a1:Int) (r:List ByteArray) (w:World) (hr0:Kd.C Kd.string w A0 l0.length l0) (hc0:l0.length≤c0) (h:mosaicref03_way.f k l0 a1=some r),
  Calls Try.prog 98 #[.slice A0 l0.length c0,.int .i64 a1] w fun e w'=>∃ v0_:Value,e=.returned (v0_)∧Kd.R Kd.string 9 w' w.heap.size (fun _=>True) v0_ r∧Below w.heap.size w w':=by
 induction k using Nat.strongRecOn with
 | _ k ih =>
 intro A0 c0 l0 a1 r w hr0 hc0 h
 cases k with
 | zero=>exact absurd h (by simp [mosaicref03_way.f])
 | succ k =>
 simp only [mosaicref03_way.f] at h
 have HR0:=Aside0.mk hr0
 have HC0:=Aside0.mk hc0
 clear hr0 hc0
 have HB:=Aside0.mk (Below.refl w.heap.size w)
 have H:(if (l0.length:Int)=1 then (some ([]:List ByteArray)) else ((mosaicref03_half.f k (l0.length:Int)).bind fun t336=>(if a1 < t336 then (if 0≤t336 then (if t336≤(l0.length:Int) then ((mosaicref03_way.f k (l0.take (t336:Int).toNat) a1).bind fun t338=>((mosaicref03_Top.f k (l0.drop (t336:Int).toNat)).bind fun t342=>(if t338.length < 8796093022208 then (some (t338 ++ [t342])) else (none)))) else (none)) else (none)) else (if 0≤t336 then (if t336≤(l0.length:Int) then ((mosaicref03_way.f k (l0.drop (t336:Int).toNat) (wrap64 (a1 - t336))).bind fun t347=>((mosaicref03_Top.f k (l0.take (t336:Int).toNat)).bind fun t351=>(if t347.length < 8796093022208 then (some (t347 ++ [t351])) else (none)))) else (none)) else (none)))))=some r:=h
 clear h
 by_cases c3:(l0.length:Int)=1
 ·
  rw [if_pos c3] at H
  have c3b0:((l0.length:Int) == 1)=true:=beq_iff_eq.mpr c3
  have c3b1:((l0.length:Int) != 1)=false:=bne_eq_false_iff_eq.mpr c3
  clear c3
  obtain rfl:=Option.some.inj H
  go_enter Try.func98,Try.ntmps98
  go_wp2
  go_ret
  exact ⟨_,by first|rfl|(simp [errW_none,errW_some] <;> rfl)|(simp [*,errW_none,errW_some] <;> rfl),by first|exact Kd.R_nil _ _ _ _ _|exact Kd.N_nil _ _ _ _ _|exact Kd.V_nil _ _ _ _ _|exact Kd.Q_nil _ _ _ _ _|exact Kd.S_nil _ _ _ _ _,by repeat (first|(with_reducible first|exact HB.out|apply below_alloc|apply pw_below_drewN|apply below_drew1)|exact HB.out)⟩
 ·
  rw [if_neg c3] at H
  have c3b0:((l0.length:Int) == 1)=false:=beq_eq_false_iff_ne.mpr c3
  have c3b1:((l0.length:Int) != 1)=true:=bne_iff_ne.mpr c3
  replace H:=Option.bind_eq_some_iff.mp H
  obtain ⟨t336,A40,H⟩:=H
  replace H:(if a1 < t336 then (if 0≤t336 then (if t336≤(l0.length:Int) then ((mosaicref03_way.f k (l0.take (t336:Int).toNat) a1).bind fun t338=>((mosaicref03_Top.f k (l0.drop (t336:Int).toNat)).bind fun t342=>(if t338.length < 8796093022208 then (some (t338 ++ [t342])) else (none)))) else (none)) else (none)) else (if 0≤t336 then (if t336≤(l0.length:Int) then ((mosaicref03_way.f k (l0.drop (t336:Int).toNat) (wrap64 (a1 - t336))).bind fun t347=>((mosaicref03_Top.f k (l0.take (t336:Int).toNat)).bind fun t351=>(if t347.length < 8796093022208 then (some (t347 ++ [t351])) else (none)))) else (none)) else (none)))=some r:=H
  have A4:=Aside0.mk A40
  clear A40
  by_cases c5:a1 < t336
  ·
   rw [if_pos c5] at H
   have c5b0:decide (a1 < t336)=true:=decide_eq_true c5
   clear c5
   by_cases c6:0≤t336
   ·
    rw [if_pos c6] at H
    have c6b0:=eq_true c6
    have c6b1:decide (0≤t336)=true:=decide_eq_true c6
    clear c6
    by_cases c7:t336≤(l0.length:Int)
    ·
     rw [if_pos c7] at H
     have c7b0:=eq_true c7
     have c7b1:decide (t336≤(l0.length:Int))=true:=decide_eq_true c7
     clear c7
     replace H:=Option.bind_eq_some_iff.mp H
     obtain ⟨t338,A80,H⟩:=H
     replace H:((mosaicref03_Top.f k (l0.drop (t336:Int).toNat)).bind fun t342=>(if t338.length < 8796093022208 then (some (t338 ++ [t342])) else (none)))=some r:=H
     have A8:=Aside0.mk A80
     clear A80
     have c9b0:=eq_true (of_decide_eq_true (by first|(with_reducible assumption)|assumption):0≤t336)
     have c10b0:=eq_true (of_decide_eq_true (by first|(with_reducible assumption)|assumption):t336≤(l0.length:Int))
     replace H:=Option.bind_eq_some_iff.mp H
     obtain ⟨t342,A110,H⟩:=H
     replace H:(if t338.length < 8796093022208 then (some (t338 ++ [t342])) else (none))=some r:=H
     have A11:=Aside0.mk A110
     clear A110
     by_cases c12:t338.length < 8796093022208
     ·
      rw [if_pos c12] at H
      have LMc12:=Aside0.mk c12
      clear c12
      obtain ⟨y343,hy343⟩:∃ y_:List ByteArray,y_=(t338 ++ [t342]):=⟨_,rfl⟩
      replace H:(some y343)=some r:=by first|(rw [hy343];with_reducible exact H)|(have H2_:=(Option.bind_some _ _).symm.trans H;rw [hy343];with_reducible exact H2_)|(have H2_:=(Option.bind_some _ _).symm.trans H;with_reducible exact H2_)|with_reducible exact H|(rw [hy343];exact H)|exact H
      have Ny343:=Aside0.mk hy343
      clear hy343
      obtain rfl:=Option.some.inj H
      go_enter Try.func98,Try.ntmps98
      go_wp2_with (first|((with_reducible refine gate_callee (f:=99) rfl ?_);refine goesL_ (some 12) rfl rfl Try.func99 (by kernel_rfl) rfl #[.int .i64 (l0.length:Int)] rfl (by (try simp only [List.map_toArray,List.map_cons,List.map_nil]);first|done|rfl|(simp only [List.length_drop,List.length_take];rfl)) ?_;(with_reducible refine (mosaicref03_half.calls k (l0.length:Int) t336 _ A4.out).mono ?_);rintro e w' ⟨rfl,⟨nd,rfl⟩⟩;refine ⟨_,rfl,?_⟩;obtain ⟨i013,hi013,_,hsz13,_⟩:=info_parts info9;obtain ⟨hcut13,hA13,hC13⟩:=print_take_of (P:=Try.prog) Value.string (⟨#[]⟩:ByteArray) 39 9 .i64 Try.underlying39 hi013 hsz13 A0 c0 l0 t336 (of_decide_eq_true (by first|(with_reducible assumption)|assumption)) (of_decide_eq_true (by first|(with_reducible assumption)|assumption)) HC0.out;have HR337:=Aside0.mk (Kd.C_of_reads (h1:=fun _=>rfl) (hA13 _ (Kd.reads_of_C HR0.out)));have HC337:=Aside0.mk hC13;clear hA13 hC13 hi013 hsz13)|((with_reducible refine gate_callee (f:=98) rfl ?_);refine goesL_ (some 20) rfl rfl Try.func98 (by kernel_rfl) rfl #[.slice A0 (l0.take (t336:Int).toNat).length c0,.int .i64 a1] rfl (by (try simp only [List.map_toArray,List.map_cons,List.map_nil]);first|done|(rw [show (l0.take (t336:Int).toNat).length=t336.toNat from (by rw [List.length_take];have h_:(t336:Int)≤(l0.length:Int):=of_decide_eq_true (by first|(with_reducible assumption)|assumption);omega)] <;> rfl)|rfl|(simp only [List.length_drop,List.length_take];rfl)) ?_;(with_reducible refine (ih k (by omega) _ _ (l0.take (t336:Int).toNat) a1 t338 _ ?side1 ?side2 A8.out).mono ?_);(case side1=>repeat (first|exact HR337.out|(with_reducible refine Kd.C_alloc ?_ _)|(with_reducible refine Kd.C_drewN ?_ _)|(with_reducible refine Kd.C_drew ?_)));(case side2=>exact HC337.out);rintro e w14 ⟨v339,rfl,ho0,hb⟩;refine ⟨_,rfl,?_⟩;have n0_:=Aside0.mk (Kd.R_lower ho0 (below_size (by repeat (first|(with_reducible first|exact HB.out|apply below_alloc|apply pw_below_drewN|apply below_drew1)|exact HB.out))));have n1_:=Aside0.mk (below_step (by repeat (first|(with_reducible first|exact HB.out|apply below_alloc|apply pw_below_drewN|apply below_drew1)|exact HB.out)) hb);clear HB;have HO340:=n0_;have HB:=n1_;clear n0_ n1_;(try clear hb);(try clear hb2);(try clear hk);(try clear hi);(try clear ho0);obtain ⟨i015,hi015,_,hsz15,_⟩:=info_parts info9;obtain ⟨A15,hcut15,hA15,hC15⟩:=print_drop_of (P:=Try.prog) Value.string (⟨#[]⟩:ByteArray) 39 9 .i64 Try.underlying39 hi015 hsz15 A0 c0 l0 t336 (of_decide_eq_true (by first|(with_reducible assumption)|assumption)) (of_decide_eq_true (by first|(with_reducible assumption)|assumption)) HC0.out;have HR341:=Aside0.mk (Kd.C_of_reads (h1:=fun _=>rfl) (hA15 _ (Kd.reads_of_C HR0.out)));have HC341:=Aside0.mk hC15;clear hA15 hC15 hi015 hsz15)|((with_reducible refine gate_callee (f:=95) rfl ?_);refine goesL_ (some 25) rfl rfl Try.func95 (by kernel_rfl) rfl #[.slice A15 (l0.drop (t336:Int).toNat).length (c0 - t336.toNat)] rfl (by (try simp only [List.map_toArray,List.map_cons,List.map_nil]);first|done|(rw [show (l0.drop (t336:Int).toNat).length=(l0.length - t336.toNat) from List.length_drop] <;> rfl)|rfl|(simp only [List.length_drop,List.length_take];rfl)) ?_;(with_reducible refine (mosaicref03_Top.calls k _ _ (l0.drop (t336:Int).toNat) t342 _ ?side1 ?side2 A11.out).mono ?_);(case side1=>repeat (first|exact (Kd.C_below HR341.out HB.out)|(with_reducible refine Kd.C_alloc ?_ _)|(with_reducible refine Kd.C_drewN ?_ _)|(with_reducible refine Kd.C_drew ?_)));(case side2=>exact HC341.out);rintro e w16 ⟨rfl,hb⟩;refine ⟨_,rfl,?_⟩;have n0_:=Aside0.mk (Kd.R_below (by (with_reducible repeat (first|apply Kd.R_alloc|apply Kd.R_drewN|apply Kd.R_drew));exact HO340.out) hb);have n1_:=Aside0.mk (below_step (by repeat (first|(with_reducible first|exact HB.out|apply below_alloc|apply pw_below_drewN|apply below_drew1)|exact HB.out)) hb);clear HO340;clear HB;have HO340:=n0_;have HB:=n1_;clear n0_ n1_;(try clear hb);(try clear hb2);(try clear hk);(try clear hi))|((with_reducible refine gate_builtin (b:=.append) (xs:=#[.tmp 21,.tmp 26]) rfl ?_);at_builtin;refine Kd.R_append Kd.string (w0:=w) w.heap.size rfl (.tmp 21) (.tmp 26) 39 9 (.string ⟨#[]⟩) 16 rfl Try.underlying39 info9 rfl (by decide) (by omega) v339 t338 t342 [.string t342] (fun _=>True) (fun _=>False) rfl rfl ?aP (fun _ hk=>hk.elim) ?aF ?aO ?aB ?aS ?aL ?_;(case aP=>exact rfl);(case aB=>exact (by repeat (first|(with_reducible first|exact HB.out|apply below_alloc|apply pw_below_drewN|apply below_drew1)|exact HB.out)));(case aF=>exact (fun _ _=>trivial));(case aO=>exact (by (with_reducible repeat (first|apply Kd.R_alloc|apply Kd.R_drewN|apply Kd.R_drew));exact HO340.out));(case aS=>exact (below_size (by repeat (first|(with_reducible first|exact HB.out|apply below_alloc|apply pw_below_drewN|apply below_drew1)|exact HB.out))));(case aL=>have:=LMc12.out;omega);intro v344 w17 ho hb hg hat;rw [← Ny343.out] at ho;have n0_:=Aside0.mk (hb);have n1_:=Aside0.mk (ho);clear HB;clear HO340;have HB:=n0_;have HO345:=n1_;clear n0_ n1_;clear ho hb hg hat))
      go_ret
      exact ⟨_,by first|rfl|(simp [errW_none,errW_some] <;> rfl)|(simp [*,errW_none,errW_some] <;> rfl),by (with_reducible repeat (first|apply Kd.R_alloc|apply Kd.R_drewN|apply Kd.R_drew));exact HO345.out,by repeat (first|(with_reducible first|exact HB.out|apply below_alloc|apply pw_below_drewN|apply below_drew1)|exact HB.out)⟩
     ·
      rw [if_neg c12] at H
      exact absurd H (by simp)
    ·
     rw [if_neg c7] at H
     exact absurd H (by simp)
   ·
    rw [if_neg c6] at H
    exact absurd H (by simp)
  ·
   rw [if_neg c5] at H
   have c5b0:decide (a1 < t336)=false:=decide_eq_false c5
   clear c5
   by_cases c18:0≤t336
   ·
    rw [if_pos c18] at H
    have c18b0:=eq_true c18
    have c18b1:decide (0≤t336)=true:=decide_eq_true c18
    clear c18
    by_cases c19:t336≤(l0.length:Int)
    ·
     rw [if_pos c19] at H
     have c19b0:=eq_true c19
     have c19b1:decide (t336≤(l0.length:Int))=true:=decide_eq_true c19
     clear c19
     replace H:=Option.bind_eq_some_iff.mp H
     obtain ⟨t347,A200,H⟩:=H
     replace H:((mosaicref03_Top.f k (l0.take (t336:Int).toNat)).bind fun t351=>(if t347.length < 8796093022208 then (some (t347 ++ [t351])) else (none)))=some r:=H
     have A20:=Aside0.mk A200
     clear A200
     have c21b0:=eq_true (of_decide_eq_true (by first|(with_reducible assumption)|assumption):0≤t336)
     have c22b0:=eq_true (of_decide_eq_true (by first|(with_reducible assumption)|assumption):t336≤(l0.length:Int))
     replace H:=Option.bind_eq_some_iff.mp H
     obtain ⟨t351,A230,H⟩:=H
     replace H:(if t347.length < 8796093022208 then (some (t347 ++ [t351])) else (none))=some r:=H
     have A23:=Aside0.mk A230
     clear A230
     by_cases c24:t347.length < 8796093022208
     ·
      rw [if_pos c24] at H
      have LMc24:=Aside0.mk c24
      clear c24
      obtain ⟨y352,hy352⟩:∃ y_:List ByteArray,y_=(t347 ++ [t351]):=⟨_,rfl⟩
      replace H:(some y352)=some r:=by first|(rw [hy352];with_reducible exact H)|(have H2_:=(Option.bind_some _ _).symm.trans H;rw [hy352];with_reducible exact H2_)|(have H2_:=(Option.bind_some _ _).symm.trans H;with_reducible exact H2_)|with_reducible exact H|(rw [hy352];exact H)|exact H
      have Ny352:=Aside0.mk hy352
      clear hy352
      obtain rfl:=Option.some.inj H
      go_enter Try.func98,Try.ntmps98
      go_wp2_with (first|((with_reducible refine gate_callee (f:=99) rfl ?_);refine goesL_ (some 12) rfl rfl Try.func99 (by kernel_rfl) rfl #[.int .i64 (l0.length:Int)] rfl (by (try simp only [List.map_toArray,List.map_cons,List.map_nil]);first|done|rfl|(simp only [List.length_drop,List.length_take];rfl)) ?_;(with_reducible refine (mosaicref03_half.calls k (l0.length:Int) t336 _ A4.out).mono ?_);rintro e w' ⟨rfl,⟨nd,rfl⟩⟩;refine ⟨_,rfl,?_⟩;obtain ⟨i025,hi025,_,hsz25,_⟩:=info_parts info9;obtain ⟨A25,hcut25,hA25,hC25⟩:=print_drop_of (P:=Try.prog) Value.string (⟨#[]⟩:ByteArray) 39 9 .i64 Try.underlying39 hi025 hsz25 A0 c0 l0 t336 (of_decide_eq_true (by first|(with_reducible assumption)|assumption)) (of_decide_eq_true (by first|(with_reducible assumption)|assumption)) HC0.out;have HR346:=Aside0.mk (Kd.C_of_reads (h1:=fun _=>rfl) (hA25 _ (Kd.reads_of_C HR0.out)));have HC346:=Aside0.mk hC25;clear hA25 hC25 hi025 hsz25)|((with_reducible refine gate_callee (f:=98) rfl ?_);refine goesL_ (some 34) rfl rfl Try.func98 (by kernel_rfl) rfl #[.slice A25 (l0.drop (t336:Int).toNat).length (c0 - t336.toNat),.int .i64 (wrap64 (a1 - t336))] rfl (by (try simp only [List.map_toArray,List.map_cons,List.map_nil]);first|done|(rw [show (l0.drop (t336:Int).toNat).length=(l0.length - t336.toNat) from List.length_drop] <;> rfl)|rfl|(simp only [List.length_drop,List.length_take];rfl)) ?_;(with_reducible refine (ih k (by omega) _ _ (l0.drop (t336:Int).toNat) (wrap64 (a1 - t336)) t347 _ ?side1 ?side2 A20.out).mono ?_);(case side1=>repeat (first|exact HR346.out|(with_reducible refine Kd.C_alloc ?_ _)|(with_reducible refine Kd.C_drewN ?_ _)|(with_reducible refine Kd.C_drew ?_)));(case side2=>exact HC346.out);rintro e w26 ⟨v348,rfl,ho0,hb⟩;refine ⟨_,rfl,?_⟩;have n0_:=Aside0.mk (Kd.R_lower ho0 (below_size (by repeat (first|(with_reducible first|exact HB.out|apply below_alloc|apply pw_below_drewN|apply below_drew1)|exact HB.out))));have n1_:=Aside0.mk (below_step (by repeat (first|(with_reducible first|exact HB.out|apply below_alloc|apply pw_below_drewN|apply below_drew1)|exact HB.out)) hb);clear HB;have HO349:=n0_;have HB:=n1_;clear n0_ n1_;(try clear hb);(try clear hb2);(try clear hk);(try clear hi);(try clear ho0);obtain ⟨i027,hi027,_,hsz27,_⟩:=info_parts info9;obtain ⟨hcut27,hA27,hC27⟩:=print_take_of (P:=Try.prog) Value.string (⟨#[]⟩:ByteArray) 39 9 .i64 Try.underlying39 hi027 hsz27 A0 c0 l0 t336 (of_decide_eq_true (by first|(with_reducible assumption)|assumption)) (of_decide_eq_true (by first|(with_reducible assumption)|assumption)) HC0.out;have HR350:=Aside0.mk (Kd.C_of_reads (h1:=fun _=>rfl) (hA27 _ (Kd.reads_of_C HR0.out)));have HC350:=Aside0.mk hC27;clear hA27 hC27 hi027 hsz27)|((with_reducible refine gate_callee (f:=95) rfl ?_);refine goesL_ (some 39) rfl rfl Try.func95 (by kernel_rfl) rfl #[.slice A0 (l0.take (t336:Int).toNat).length c0] rfl (by (try simp only [List.map_toArray,List.map_cons,List.map_nil]);first|done|(rw [show (l0.take (t336:Int).toNat).length=t336.toNat from (by rw [List.length_take];have h_:(t336:Int)≤(l0.length:Int):=of_decide_eq_true (by first|(with_reducible assumption)|assumption);omega)] <;> rfl)|rfl|(simp only [List.length_drop,List.length_take];rfl)) ?_;(with_reducible refine (mosaicref03_Top.calls k _ _ (l0.take (t336:Int).toNat) t351 _ ?side1 ?side2 A23.out).mono ?_);(case side1=>repeat (first|exact (Kd.C_below HR350.out HB.out)|(with_reducible refine Kd.C_alloc ?_ _)|(with_reducible refine Kd.C_drewN ?_ _)|(with_reducible refine Kd.C_drew ?_)));(case side2=>exact HC350.out);rintro e w28 ⟨rfl,hb⟩;refine ⟨_,rfl,?_⟩;have n0_:=Aside0.mk (Kd.R_below (by (with_reducible repeat (first|apply Kd.R_alloc|apply Kd.R_drewN|apply Kd.R_drew));exact HO349.out) hb);have n1_:=Aside0.mk (below_step (by repeat (first|(with_reducible first|exact HB.out|apply below_alloc|apply pw_below_drewN|apply below_drew1)|exact HB.out)) hb);clear HO349;clear HB;have HO349:=n0_;have HB:=n1_;clear n0_ n1_;(try clear hb);(try clear hb2);(try clear hk);(try clear hi))|((with_reducible refine gate_builtin (b:=.append) (xs:=#[.tmp 35,.tmp 40]) rfl ?_);at_builtin;refine Kd.R_append Kd.string (w0:=w) w.heap.size rfl (.tmp 35) (.tmp 40) 39 9 (.string ⟨#[]⟩) 16 rfl Try.underlying39 info9 rfl (by decide) (by omega) v348 t347 t351 [.string t351] (fun _=>True) (fun _=>False) rfl rfl ?aP (fun _ hk=>hk.elim) ?aF ?aO ?aB ?aS ?aL ?_;(case aP=>exact rfl);(case aB=>exact (by repeat (first|(with_reducible first|exact HB.out|apply below_alloc|apply pw_below_drewN|apply below_drew1)|exact HB.out)));(case aF=>exact (fun _ _=>trivial));(case aO=>exact (by (with_reducible repeat (first|apply Kd.R_alloc|apply Kd.R_drewN|apply Kd.R_drew));exact HO349.out));(case aS=>exact (below_size (by repeat (first|(with_reducible first|exact HB.out|apply below_alloc|apply pw_below_drewN|apply below_drew1)|exact HB.out))));(case aL=>have:=LMc24.out;omega);intro v353 w29 ho hb hg hat;rw [← Ny352.out] at ho;have n0_:=Aside0.mk (hb);have n1_:=Aside0.mk (ho);clear HB;clear HO349;have HB:=n0_;have HO354:=n1_;clear n0_ n1_;clear ho hb hg hat))
      go_ret
      exact ⟨_,by first|rfl|(simp [errW_none,errW_some] <;> rfl)|(simp [*,errW_none,errW_some] <;> rfl),by (with_reducible repeat (first|apply Kd.R_alloc|apply Kd.R_drewN|apply Kd.R_drew));exact HO354.out,by repeat (first|(with_reducible first|exact HB.out|apply below_alloc|apply pw_below_drewN|apply below_drew1)|exact HB.out)⟩
     ·
      rw [if_neg c24] at H
      exact absurd H (by simp)
    ·
     rw [if_neg c19] at H
     exact absurd H (by simp)
   ·
    rw [if_neg c18] at H
    exact absurd H (by simp)
end Go.Proofs.Ytelcaepenfjloaa.Print
/-! #### Pr53 -/
namespace Go.Proofs.Ytelcaepenfjloaa.Print
open Go.RowKit Go.Proofs.YtelcaepenfjloaaW.PrintWords Go.Proofs.YtelcaepenfjloaaW.PrintLast Go.Proofs.YtelcaepenfjloaaW.PrintMore
attribute [local go_sem] max2_int min2_int max_two min_two max_three min_three max_four min_four
set_option linter.unusedVariables false
set_option linter.unusedSimpArgs false
/-! ### mosaicref03_Path: function 53 -/
def mosaicref03_Path.f (k:Nat) (l0:List ByteArray) (a1:Int):Option (List ByteArray×Int):=(mosaicref03_May.f k l0).bind fun t355=>(if t355=0 then (if a1 < 0 then (some (([]:List ByteArray),1)) else (if a1≥(l0.length:Int) then (some (([]:List ByteArray),1)) else ((mosaicref03_way.f k l0 a1).bind fun t356=>(some (t356,0))))) else (some (([]:List ByteArray),t355)))
theorem mosaicref03_Path.mono:∀ a0 a1 k,LeO (mosaicref03_Path.f k a0 a1) (mosaicref03_Path.f (k+1) a0 a1):=by
 intro a0 a1 k
 unfold mosaicref03_Path.f
 repeat' first
   | (with_reducible exact mosaicref03_May.mono _ _)
   | (with_reducible exact mosaicref03_way.mono _ _ _)
   | (with_reducible exact LeO.refl _)
   | (with_reducible exact LeO.none _)
   | (with_reducible refine LeO.ite ?_ ?_)
   | (with_reducible refine LeO.bind ?_ (fun _=>?_))
   | exact mosaicref03_May.mono _ _
   | exact mosaicref03_way.mono _ _ _
   | exact LeO.none _
   | refine LeO.ite ?_ ?_
   | refine LeO.bind ?_ (fun _=>?_)
set_option maxHeartbeats 8000000 in
set_option maxRecDepth 100000 in
theorem mosaicref03_Path.calls (k:Nat) (A0:Option Addr) (c0:Nat) (l0:List ByteArray) (a1:Int) (r1:List ByteArray) (r2:Int) (w:World) (hr0:Kd.C Kd.string w A0 l0.length l0) (hc0:l0.length≤c0) (h:mosaicref03_Path.f k l0 a1=some (r1,r2)) :
  Calls Try.prog 53 #[.slice A0 l0.length c0,.int .i64 a1] w fun e w'=>∃ v0_:Value,e=.returned (.tuple #[v0_,.int .i64 r2])∧Kd.R Kd.string 9 w' w.heap.size (fun _=>True) v0_ r1∧Below w.heap.size w w':=by
 have HR0:=Aside0.mk hr0
 have HC0:=Aside0.mk hc0
 clear hr0 hc0
 have HB:=Aside0.mk (Below.refl w.heap.size w)
 have H:((mosaicref03_May.f k l0).bind fun t355=>(if t355=0 then (if a1 < 0 then (some (([]:List ByteArray),1)) else (if a1≥(l0.length:Int) then (some (([]:List ByteArray),1)) else ((mosaicref03_way.f k l0 a1).bind fun t356=>(some (t356,0))))) else (some (([]:List ByteArray),t355))))=some (r1,r2):=h
 clear h
 replace H:=Option.bind_eq_some_iff.mp H
 obtain ⟨t355,A30,H⟩:=H
 replace H:(if t355=0 then (if a1 < 0 then (some (([]:List ByteArray),1)) else (if a1≥(l0.length:Int) then (some (([]:List ByteArray),1)) else ((mosaicref03_way.f k l0 a1).bind fun t356=>(some (t356,0))))) else (some (([]:List ByteArray),t355)))=some (r1,r2):=H
 have A3:=Aside0.mk A30
 clear A30
 by_cases c4:t355=0
 ·
  rw [if_pos c4] at H
  have c4b0:(t355 == 0)=true:=beq_iff_eq.mpr c4
  have c4b1:(t355 != 0)=false:=bne_eq_false_iff_eq.mpr c4
  clear c4
  by_cases c5:a1 < 0
  ·
   rw [if_pos c5] at H
   have c5b0:decide (a1 < 0)=true:=decide_eq_true c5
   clear c5
   simp only [Option.some.injEq,Prod.mk.injEq] at H
   obtain ⟨rfl,rfl⟩:=H
   go_enter Try.func53,Try.ntmps53
   go_wp2_with (first|((with_reducible refine gate_callee (f:=94) rfl ?_);refine goesL_ (some 8) rfl rfl Try.func94 (by kernel_rfl) rfl #[.slice A0 l0.length c0] rfl (by (try simp only [List.map_toArray,List.map_cons,List.map_nil]);first|done|rfl|(simp only [List.length_drop,List.length_take];rfl)) ?_;(with_reducible refine (mosaicref03_May.calls k _ _ l0 t355 _ ?side1 ?side2 A3.out).mono ?_);(case side1=>repeat (first|exact HR0.out|(with_reducible refine Kd.C_alloc ?_ _)|(with_reducible refine Kd.C_drewN ?_ _)|(with_reducible refine Kd.C_drew ?_)));(case side2=>exact HC0.out);rintro e w' ⟨rfl,⟨nd,rfl⟩⟩;refine ⟨_,rfl,?_⟩))
   go_ret2
   exact ⟨_,by first|rfl|(simp [errW_none,errW_some] <;> rfl)|(simp [*,errW_none,errW_some] <;> rfl),by first|exact Kd.R_nil _ _ _ _ _|exact Kd.N_nil _ _ _ _ _|exact Kd.V_nil _ _ _ _ _|exact Kd.Q_nil _ _ _ _ _|exact Kd.S_nil _ _ _ _ _,by repeat (first|(with_reducible first|exact HB.out|apply below_alloc|apply pw_below_drewN|apply below_drew1)|exact HB.out)⟩
  ·
   rw [if_neg c5] at H
   have c5b0:decide (a1 < 0)=false:=decide_eq_false c5
   clear c5
   by_cases c6:a1≥(l0.length:Int)
   ·
    rw [if_pos c6] at H
    have c6b0:decide ((l0.length:Int)≤a1)=true:=decide_eq_true c6
    clear c6
    simp only [Option.some.injEq,Prod.mk.injEq] at H
    obtain ⟨rfl,rfl⟩:=H
    go_enter Try.func53,Try.ntmps53
    go_wp2_with (first|((with_reducible refine gate_callee (f:=94) rfl ?_);refine goesL_ (some 8) rfl rfl Try.func94 (by kernel_rfl) rfl #[.slice A0 l0.length c0] rfl (by (try simp only [List.map_toArray,List.map_cons,List.map_nil]);first|done|rfl|(simp only [List.length_drop,List.length_take];rfl)) ?_;(with_reducible refine (mosaicref03_May.calls k _ _ l0 t355 _ ?side1 ?side2 A3.out).mono ?_);(case side1=>repeat (first|exact HR0.out|(with_reducible refine Kd.C_alloc ?_ _)|(with_reducible refine Kd.C_drewN ?_ _)|(with_reducible refine Kd.C_drew ?_)));(case side2=>exact HC0.out);rintro e w' ⟨rfl,⟨nd,rfl⟩⟩;refine ⟨_,rfl,?_⟩))
    go_ret2
    exact ⟨_,by first|rfl|(simp [errW_none,errW_some] <;> rfl)|(simp [*,errW_none,errW_some] <;> rfl),by first|exact Kd.R_nil _ _ _ _ _|exact Kd.N_nil _ _ _ _ _|exact Kd.V_nil _ _ _ _ _|exact Kd.Q_nil _ _ _ _ _|exact Kd.S_nil _ _ _ _ _,by repeat (first|(with_reducible first|exact HB.out|apply below_alloc|apply pw_below_drewN|apply below_drew1)|exact HB.out)⟩
   ·
    rw [if_neg c6] at H
    have c6b0:decide ((l0.length:Int)≤a1)=false:=decide_eq_false c6
    clear c6
    replace H:=Option.bind_eq_some_iff.mp H
    obtain ⟨t356,A70,H⟩:=H
    replace H:(some (t356,0))=some (r1,r2):=H
    have A7:=Aside0.mk A70
    clear A70
    simp only [Option.some.injEq,Prod.mk.injEq] at H
    obtain ⟨rfl,rfl⟩:=H
    go_enter Try.func53,Try.ntmps53
    go_wp2_with (first|((with_reducible refine gate_callee (f:=94) rfl ?_);refine goesL_ (some 8) rfl rfl Try.func94 (by kernel_rfl) rfl #[.slice A0 l0.length c0] rfl (by (try simp only [List.map_toArray,List.map_cons,List.map_nil]);first|done|rfl|(simp only [List.length_drop,List.length_take];rfl)) ?_;(with_reducible refine (mosaicref03_May.calls k _ _ l0 t355 _ ?side1 ?side2 A3.out).mono ?_);(case side1=>repeat (first|exact HR0.out|(with_reducible refine Kd.C_alloc ?_ _)|(with_reducible refine Kd.C_drewN ?_ _)|(with_reducible refine Kd.C_drew ?_)));(case side2=>exact HC0.out);rintro e w' ⟨rfl,⟨nd,rfl⟩⟩;refine ⟨_,rfl,?_⟩)|((with_reducible refine gate_callee (f:=98) rfl ?_);refine goesL_ (some 22) rfl rfl Try.func98 (by kernel_rfl) rfl #[.slice A0 l0.length c0,.int .i64 a1] rfl (by (try simp only [List.map_toArray,List.map_cons,List.map_nil]);first|done|rfl|(simp only [List.length_drop,List.length_take];rfl)) ?_;(with_reducible refine (mosaicref03_way.calls k _ _ l0 a1 t356 _ ?side1 ?side2 A7.out).mono ?_);(case side1=>repeat (first|exact HR0.out|(with_reducible refine Kd.C_alloc ?_ _)|(with_reducible refine Kd.C_drewN ?_ _)|(with_reducible refine Kd.C_drew ?_)));(case side2=>exact HC0.out);rintro e w8 ⟨v357,rfl,ho0,hb⟩;refine ⟨_,rfl,?_⟩;have n0_:=Aside0.mk (Kd.R_lower ho0 (below_size (by repeat (first|(with_reducible first|exact HB.out|apply below_alloc|apply pw_below_drewN|apply below_drew1)|exact HB.out))));have n1_:=Aside0.mk (below_step (by repeat (first|(with_reducible first|exact HB.out|apply below_alloc|apply pw_below_drewN|apply below_drew1)|exact HB.out)) hb);clear HB;have HO358:=n0_;have HB:=n1_;clear n0_ n1_;(try clear hb);(try clear hb2);(try clear hk);(try clear hi);(try clear ho0)))
    go_ret2
    exact ⟨_,by first|rfl|(simp [errW_none,errW_some] <;> rfl)|(simp [*,errW_none,errW_some] <;> rfl),by (with_reducible repeat (first|apply Kd.R_alloc|apply Kd.R_drewN|apply Kd.R_drew));exact HO358.out,by repeat (first|(with_reducible first|exact HB.out|apply below_alloc|apply pw_below_drewN|apply below_drew1)|exact HB.out)⟩
 ·
  rw [if_neg c4] at H
  have c4b0:(t355 == 0)=false:=beq_eq_false_iff_ne.mpr c4
  have c4b1:(t355 != 0)=true:=bne_iff_ne.mpr c4
  simp only [Option.some.injEq,Prod.mk.injEq] at H
  obtain ⟨rfl,rfl⟩:=H
  go_enter Try.func53,Try.ntmps53
  go_wp2_with (first|((with_reducible refine gate_callee (f:=94) rfl ?_);refine goesL_ (some 8) rfl rfl Try.func94 (by kernel_rfl) rfl #[.slice A0 l0.length c0] rfl (by (try simp only [List.map_toArray,List.map_cons,List.map_nil]);first|done|rfl|(simp only [List.length_drop,List.length_take];rfl)) ?_;(with_reducible refine (mosaicref03_May.calls k _ _ l0 t355 _ ?side1 ?side2 A3.out).mono ?_);(case side1=>repeat (first|exact HR0.out|(with_reducible refine Kd.C_alloc ?_ _)|(with_reducible refine Kd.C_drewN ?_ _)|(with_reducible refine Kd.C_drew ?_)));(case side2=>exact HC0.out);rintro e w' ⟨rfl,⟨nd,rfl⟩⟩;refine ⟨_,rfl,?_⟩))
  go_ret2
  exact ⟨_,by first|rfl|(simp [errW_none,errW_some] <;> rfl)|(simp [*,errW_none,errW_some] <;> rfl),by first|exact Kd.R_nil _ _ _ _ _|exact Kd.N_nil _ _ _ _ _|exact Kd.V_nil _ _ _ _ _|exact Kd.Q_nil _ _ _ _ _|exact Kd.S_nil _ _ _ _ _,by repeat (first|(with_reducible first|exact HB.out|apply below_alloc|apply pw_below_drewN|apply below_drew1)|exact HB.out)⟩
end Go.Proofs.Ytelcaepenfjloaa.Print
/-! #### Pr56 -/
namespace Go.Proofs.Ytelcaepenfjloaa.Print
open Go.RowKit Go.Proofs.YtelcaepenfjloaaW.PrintWords Go.Proofs.YtelcaepenfjloaaW.PrintLast Go.Proofs.YtelcaepenfjloaaW.PrintMore
attribute [local go_sem] max2_int min2_int max_two min_two max_three min_three max_four min_four
set_option linter.unusedVariables false
set_option linter.unusedSimpArgs false
/-! ### mosaicref03_Depth: function 56 -/
mutual
def mosaicref03_Depth.j0:Nat→Int→Int→Bool→Option (Int)
 | 0,_,_,_=>none
 | k+1,x0,x1,x21=>if x21=true then (some (-1)) else (mosaicref03_Depth.l0 k x0 x1 0)
def mosaicref03_Depth.l0:Nat→Int→Int→Int→Option (Int)
 | 0,_,_,_=>none
 | k+1,x0,x1,x5=>if x0 > 1 then ((mosaicref03_half.f k x0).bind fun t375=>(if x1 < t375 then (mosaicref03_Depth.l0 k t375 x1 (wrap64 (x5+1))) else (mosaicref03_Depth.l0 k (wrap64 (x0 - t375)) (wrap64 (x1 - t375)) (wrap64 (x5+1))))) else (some x5)
end
def mosaicref03_Depth.f (k:Nat) (a0:Int) (a1:Int):Option (Int):=if a0 < 1 then (mosaicref03_Depth.j0 k a0 a1 true) else (if a0 > 256 then (mosaicref03_Depth.j0 k a0 a1 true) else (if a1 < 0 then (mosaicref03_Depth.j0 k a0 a1 true) else (mosaicref03_Depth.j0 k a0 a1 (decide (a1≥a0)))))
theorem mosaicref03_Depth.mono_l:∀ k,(∀ y0 y1 y2,LeO (mosaicref03_Depth.j0 k y0 y1 y2) (mosaicref03_Depth.j0 (k+1) y0 y1 y2))∧(∀ y0 y1 y2,LeO (mosaicref03_Depth.l0 k y0 y1 y2) (mosaicref03_Depth.l0 (k+1) y0 y1 y2))
 | 0=>⟨fun _ _ _ r h=>by simp [mosaicref03_Depth.j0] at h,fun _ _ _ r h=>by simp [mosaicref03_Depth.l0] at h⟩
 | k+1=>by
  obtain ⟨ih0,ih1⟩:=mosaicref03_Depth.mono_l k
  refine ⟨?_,?_⟩
  ·
   intro y0 y1 y2
   unfold mosaicref03_Depth.j0
   repeat' first
   | (with_reducible exact ih0 _ _ _)
   | (with_reducible exact ih1 _ _ _)
   | (with_reducible exact mosaicref03_half.mono _ _)
   | (with_reducible exact LeO.refl _)
   | (with_reducible exact LeO.none _)
   | (with_reducible refine LeO.ite ?_ ?_)
   | (with_reducible refine LeO.bind ?_ (fun _=>?_))
   | exact ih0 _ _ _
   | exact ih1 _ _ _
   | exact mosaicref03_half.mono _ _
   | exact LeO.none _
   | refine LeO.ite ?_ ?_
   | refine LeO.bind ?_ (fun _=>?_)
  ·
   intro y0 y1 y2
   unfold mosaicref03_Depth.l0
   repeat' first
   | (with_reducible exact ih0 _ _ _)
   | (with_reducible exact ih1 _ _ _)
   | (with_reducible exact mosaicref03_half.mono _ _)
   | (with_reducible exact LeO.refl _)
   | (with_reducible exact LeO.none _)
   | (with_reducible refine LeO.ite ?_ ?_)
   | (with_reducible refine LeO.bind ?_ (fun _=>?_))
   | exact ih0 _ _ _
   | exact ih1 _ _ _
   | exact mosaicref03_half.mono _ _
   | exact LeO.none _
   | refine LeO.ite ?_ ?_
   | refine LeO.bind ?_ (fun _=>?_)
theorem mosaicref03_Depth.mono:∀ a0 a1 k,LeO (mosaicref03_Depth.f k a0 a1) (mosaicref03_Depth.f (k+1) a0 a1):=by
 intro a0 a1 k
 obtain ⟨ih0,ih1⟩:=mosaicref03_Depth.mono_l k
 unfold mosaicref03_Depth.f
 repeat' first
   | (with_reducible exact ih0 _ _ _)
   | (with_reducible exact ih1 _ _ _)
   | (with_reducible exact mosaicref03_half.mono _ _)
   | (with_reducible exact LeO.refl _)
   | (with_reducible exact LeO.none _)
   | (with_reducible refine LeO.ite ?_ ?_)
   | (with_reducible refine LeO.bind ?_ (fun _=>?_))
   | exact ih0 _ _ _
   | exact ih1 _ _ _
   | exact mosaicref03_half.mono _ _
   | exact LeO.none _
   | refine LeO.ite ?_ ?_
   | refine LeO.bind ?_ (fun _=>?_)
set_option maxHeartbeats 8000000 in
set_option maxRecDepth 100000 in
theorem mosaicref03_Depth.calls (k:Nat) (a0:Int) (a1:Int) (r:Int) (w:World) (h:mosaicref03_Depth.f k a0 a1=some r) :
  Calls Try.prog 56 #[.int .i64 a0,.int .i64 a1] w fun e w'=>e=.returned (.int .i64 r)∧Drawn0 w w':=by
 have H:(if a0 < 1 then (mosaicref03_Depth.j0 k a0 a1 true) else (if a0 > 256 then (mosaicref03_Depth.j0 k a0 a1 true) else (if a1 < 0 then (mosaicref03_Depth.j0 k a0 a1 true) else (mosaicref03_Depth.j0 k a0 a1 (decide (a1≥a0))))))=some r:=h
 clear h
 have HC3:=Aside0.mk H
 clear H
 go_enter Try.func56,Try.ntmps56
 go_upto_region 1 with (fail)
 go_cut [21] (fun v21 wc=>∃ (kq:Nat) (x21_2:Bool),v21=.bool x21_2∧Aside0 (mosaicref03_Depth.j0 kq a0 a1 x21_2=some r)∧Aside0 (kq≤k)∧Drawn0 w wc)
 case first =>
  have H:=HC3.out
  clear HC3
  by_cases c4:a0 < 1
  ·
   rw [if_pos c4] at H
   have c4b0:decide (a0 < 1)=true:=decide_eq_true c4
   clear c4
   (first|rw [c4b0]|(simp only [i64_w,i32_w];rw [c4b0])|skip)
   have H':=Aside0.mk H
   clear H
   go_wp2
   go_meet
   case rel=>exact ⟨_,(true),(by first|rfl|(simp;done)|(simp [*];done)),H',⟨by first|omega|exact Nat.le_refl _⟩,by repeat (first|exact Drawn0.refl _|apply Drawn0.step)⟩
  ·
   rw [if_neg c4] at H
   have c4b0:decide (a0 < 1)=false:=decide_eq_false c4
   clear c4
   (first|rw [c4b0]|(simp only [i64_w,i32_w];rw [c4b0])|skip)
   by_cases c5:a0 > 256
   ·
    rw [if_pos c5] at H
    have c5b0:decide (256 < a0)=true:=decide_eq_true c5
    clear c5
    have H':=Aside0.mk H
    clear H
    go_wp2
    go_meet
    case rel=>exact ⟨_,(true),(by first|rfl|(simp;done)|(simp [*];done)),H',⟨by first|omega|exact Nat.le_refl _⟩,by repeat (first|exact Drawn0.refl _|apply Drawn0.step)⟩
   ·
    rw [if_neg c5] at H
    have c5b0:decide (256 < a0)=false:=decide_eq_false c5
    clear c5
    by_cases c6:a1 < 0
    ·
     rw [if_pos c6] at H
     have c6b0:decide (a1 < 0)=true:=decide_eq_true c6
     clear c6
     have H':=Aside0.mk H
     clear H
     go_wp2
     go_meet
     case rel=>exact ⟨_,(true),(by first|rfl|(simp;done)|(simp [*];done)),H',⟨by first|omega|exact Nat.le_refl _⟩,by repeat (first|exact Drawn0.refl _|apply Drawn0.step)⟩
    ·
     rw [if_neg c6] at H
     have c6b0:decide (a1 < 0)=false:=decide_eq_false c6
     clear c6
     have H':=Aside0.mk H
     clear H
     go_wp2
     go_meet
     case rel=>exact ⟨_,(decide (a1≥a0)),(by first|rfl|(simp;done)|(simp [*];done)),H',⟨by first|omega|exact Nat.le_refl _⟩,by repeat (first|exact Drawn0.refl _|apply Drawn0.step)⟩
 case rest =>
  clear HC3
  try clear p2
  try clear c4
  try clear c4b0
  try clear c5
  try clear c5b0
  try clear c6
  try clear c6b0
  obtain ⟨kq,x21_2,rfl,HA,HJ2,⟨mc2,rfl⟩⟩:=hcut
  cases kq with
  | zero=>exact absurd HA.out (by simp [mosaicref03_Depth.j0])
  | succ kj2 =>
   have H:=HA.out
   clear HA
   simp only [mosaicref03_Depth.j0] at H
   by_cases c7:x21_2=true
   ·
    subst c7
    have H1:(some (-1))=some r:=by rw [if_pos rfl] at H;exact H
    clear H
    have H:=H1
    clear H1
    obtain rfl:=Option.some.inj H
    go_wp2
    go_ret
    exact ⟨by first|rfl|(simp;done)|(simp [*];done),by repeat (first|exact Drawn0.refl _|apply Drawn0.step)⟩
   ·
    replace c7:=Bool.eq_false_iff.mpr c7
    subst c7
    have H1:(mosaicref03_Depth.l0 kj2 a0 a1 0)=some r:=by rw [if_neg (show ¬ (false=true) by decide)] at H;exact H
    clear H
    have H:=H1
    clear H1
    have H':=Aside0.mk H
    clear H
    go_wp2
    go_loopg [0,1,5] kj2 (fun kq v0 v1 v5 w'=>∃ (x0_2:Int) (x1_2:Int) (x5_2:Int),v0=.int .i64 x0_2∧v1=.int .i64 x1_2∧v5=.int .i64 x5_2∧Aside0 (mosaicref03_Depth.l0 kq x0_2 x1_2 x5_2=some r)∧Aside0 (kq≤kj2)∧Drawn0 w w')
    case atStart=>exact ⟨(a0),(a1),(0),(by first|rfl|(simp;done)|(simp [*];done)),(by first|rfl|(simp;done)|(simp [*];done)),(by first|rfl|(simp;done)|(simp [*];done)),H',⟨Nat.le_refl _⟩,by repeat (first|exact Drawn0.refl _|apply Drawn0.step)⟩
    case round =>
     clear H'
     try clear c2
     try clear p2
     try clear c4
     try clear c4b0
     try clear c5
     try clear c5b0
     try clear c6
     try clear c6b0
     try clear c7
     try clear p2
     obtain ⟨x0_2,x1_2,x5_2,rfl,rfl,rfl,HA,HK2,⟨m2,rfl⟩⟩:=hrel
     cases gk with
     | zero=>exact absurd HA.out (by simp [mosaicref03_Depth.l0])
     | succ k2 =>
      have H:=HA.out
      clear HA
      simp only [mosaicref03_Depth.l0] at H
      by_cases c8:x0_2 > 1
      ·
       rw [if_pos c8] at H
       have c8b0:decide (1 < x0_2)=true:=decide_eq_true c8
       clear c8
       replace H:=Option.bind_eq_some_iff.mp H
       obtain ⟨t375,A90,H⟩:=H
       replace H:(if x1_2 < t375 then (mosaicref03_Depth.l0 k2 t375 x1_2 (wrap64 (x5_2+1))) else (mosaicref03_Depth.l0 k2 (wrap64 (x0_2 - t375)) (wrap64 (x1_2 - t375)) (wrap64 (x5_2+1))))=some r:=H
       have A9:=Aside0.mk A90
       clear A90
       by_cases c10:x1_2 < t375
       ·
        rw [if_pos c10] at H
        have c10b0:decide (x1_2 < t375)=true:=decide_eq_true c10
        clear c10
        have H':=Aside0.mk H
        clear H
        go_wp2_with (first|((with_reducible refine gate_callee (f:=99) rfl ?_);refine goesL_ (some 25) rfl rfl Try.func99 (by kernel_rfl) rfl #[.int .i64 x0_2] rfl (by (try simp only [List.map_toArray,List.map_cons,List.map_nil]);first|done|rfl|(simp only [List.length_drop,List.length_take];rfl)) ?_;(with_reducible refine (mosaicref03_half.calls k2 x0_2 t375 _ A9.out).mono ?_);rintro e w' ⟨rfl,⟨nd,rfl⟩⟩;refine ⟨_,rfl,?_⟩))
        go_roundg k2
        case measure=>have:=HJ2.out;have:=HK2.out;omega
        case rel=>exact ⟨(t375),(x1_2),(wrap64 (x5_2+1)),(by first|rfl|(simp;done)|(simp [*];done)),(by first|rfl|(simp;done)|(simp [*];done)),(by first|rfl|(simp;done)|(simp [*];done)),H',⟨by have:=HJ2.out;have:=HK2.out;omega⟩,by repeat (first|exact Drawn0.refl _|apply Drawn0.step)⟩
       ·
        rw [if_neg c10] at H
        have c10b0:decide (x1_2 < t375)=false:=decide_eq_false c10
        clear c10
        have H':=Aside0.mk H
        clear H
        go_wp2_with (first|((with_reducible refine gate_callee (f:=99) rfl ?_);refine goesL_ (some 25) rfl rfl Try.func99 (by kernel_rfl) rfl #[.int .i64 x0_2] rfl (by (try simp only [List.map_toArray,List.map_cons,List.map_nil]);first|done|rfl|(simp only [List.length_drop,List.length_take];rfl)) ?_;(with_reducible refine (mosaicref03_half.calls k2 x0_2 t375 _ A9.out).mono ?_);rintro e w' ⟨rfl,⟨nd,rfl⟩⟩;refine ⟨_,rfl,?_⟩))
        go_roundg k2
        case measure=>have:=HJ2.out;have:=HK2.out;omega
        case rel=>exact ⟨(wrap64 (x0_2 - t375)),(wrap64 (x1_2 - t375)),(wrap64 (x5_2+1)),(by first|rfl|(simp;done)|(simp [*];done)),(by first|rfl|(simp;done)|(simp [*];done)),(by first|rfl|(simp;done)|(simp [*];done)),H',⟨by have:=HJ2.out;have:=HK2.out;omega⟩,by repeat (first|exact Drawn0.refl _|apply Drawn0.step)⟩
      ·
       rw [if_neg c8] at H
       have c8b0:decide (1 < x0_2)=false:=decide_eq_false c8
       clear c8
       obtain rfl:=Option.some.inj H
       go_wp2
       go_ret
       exact ⟨by first|rfl|(simp;done)|(simp [*];done),by repeat (first|exact Drawn0.refl _|apply Drawn0.step)⟩
end Go.Proofs.Ytelcaepenfjloaa.Print
/-! #### PureMer2 -/
/- What the functions on lists of texts come to: digests, levels, roots, paths, lengths of paths; the reference's. -/
namespace Go.Proofs.Ytelcaepenfjloaa.Pure
open Go.RowKit Go.Proofs.Ytelcaepenfjloaa.Print Go.Proofs.YtelcaepenfjloaaW.PrintWords Go.Proofs.YtelcaepenfjloaaW.PrintLast Go.Proofs.YtelcaepenfjloaaW.PrintMore
set_option linter.unusedVariables false
set_option linter.unusedSimpArgs false
theorem rdOf_at (l:List ByteArray) (i:Nat):rdOf ByteArray.empty l (i:Int)=l.getD i ByteArray.empty:=by simp [rdOf]
theorem getD_mem (l:List ByteArray) (i:Nat) (h:i < l.length):l.getD i ByteArray.empty∈l:=by
 rw [List.getD_eq_getElem?_getD,List.getElem?_eq_getElem h]
 exact List.getElem_mem h
theorem drop_getD (l:List ByteArray) (i:Nat) (h:i < l.length):l.drop i=l.getD i ByteArray.empty :: l.drop (i+1):=by
 rw [List.drop_eq_getElem_cons h,List.getD_eq_getElem?_getD,List.getElem?_eq_getElem h]
 rfl
theorem take_getD (l:List ByteArray) (i:Nat) (h:i < l.length):l.take (i+1)=l.take i ++ [l.getD i ByteArray.empty]:=by
 rw [List.take_succ_eq_append_getElem h,List.getD_eq_getElem?_getD,List.getElem?_eq_getElem h]
 rfl
theorem digests_l0 (l:List ByteArray) (hl:l.length≤1000) (hs:∀ s∈l,s.size≤65535) (d:Nat):∀ i:Nat,i+d=l.length→Ev (fun k=>merkle_digests.l0 k ((l.take i).map leafD) l (l.length:Int) (i:Int)) (l.map leafD):=by
 induction d with
 | zero =>
  intro i hi
  refine Ev.succ ?_
  simp only [merkle_digests.l0]
  refine Ev.neg (by omega) (Ev.some_ ?_)
  rw [List.take_of_length_le (by omega)]
 | succ d ih =>
  intro i hi
  refine Ev.succ ?_
  simp only [merkle_digests.l0]
  rw [rdOf_at,leaf_f _ (hs _ (getD_mem l i (by omega))),wrap_succ _ (by omega)]
  have:=ih (i+1) (by omega)
  rw [take_getD l i (by omega),List.map_append] at this
  exact Ev.pos (by omega) (Ev.pos (by omega) (Ev.pos (by omega) (Ev.some_bind (Ev.pos (by simp;omega) this))))
theorem digests_ev (l:List ByteArray) (hl:l.length≤1000) (hs:∀ s∈l,s.size≤65535):Ev (fun k=>merkle_digests.f k l) (l.map leafD):=digests_l0 l hl hs l.length 0 (by omega)
theorem pairs_l0 (l:List ByteArray) (hl:l.length≤1000) (hs:∀ s∈l,s.size=32) (d:Nat):∀ (i:Nat) (acc:List ByteArray),i≤l.length→l.length - i=d→acc.length≤i→Ev (fun k=>merkle_pairs.l0 k l acc (i:Int)) (acc ++ pairsM (l.drop i)):=by
 induction d using Nat.strongRecOn with
 | _ d ih =>
  intro i acc hi hd ha
  refine Ev.succ ?_
  simp only [merkle_pairs.l0]
  have e1:wrap64 ((i:Int)+1)=((i+1:Nat):Int):=wrap_succ i (by omega)
  have e2:wrap64 ((i:Int)+2)=((i+2:Nat):Int):=by unfold wrap64;omega
  rw [e1,e2]
  by_cases h0:i=l.length
  ·
   refine Ev.neg (by omega) (Ev.some_ ?_)
   rw [List.drop_of_length_le (by omega)]
   simp [pairsM]
  refine Ev.pos (by omega) ?_
  by_cases h1:i+1=l.length
  ·
   have hN:Ev (fun k=>merkle_pairs.l0 k l (acc ++ [l.getD i ByteArray.empty]) ((i+2:Nat):Int)) (acc ++ pairsM (l.drop i)):=by
    refine Ev.succ ?_
    simp only [merkle_pairs.l0]
    refine Ev.neg (by omega) (Ev.some_ ?_)
    rw [drop_getD l i (by omega),List.drop_of_length_le (by omega)]
    simp [pairsM]
   rw [rdOf_at]
   exact Ev.pos (by omega) (Ev.pos (by omega) (Ev.pos (by omega) hN))
  ·
   rw [rdOf_at,rdOf_at,Knot_f _ _ (by rw [hs _ (getD_mem l i (by omega)),hs _ (getD_mem l (i+1) (by omega))];omega)]
   have:=ih (d - 2) (by omega) (i+2) (acc ++ [knotD (l.getD i ByteArray.empty) (l.getD (i+1) ByteArray.empty)]) (by omega) (by omega) (by simp;omega)
   refine Ev.neg (by omega) (Ev.pos (by omega) (Ev.pos (by omega) (Ev.pos (by omega) (Ev.some_bind (Ev.pos (by omega) (this.to ?_))))))
   rw [drop_getD l i (by omega),drop_getD l (i+1) (by omega),pairsM,List.append_assoc]
   rfl
theorem pairs_ev (l:List ByteArray) (hl:l.length≤1000) (hs:∀ s∈l,s.size=32):Ev (fun k=>merkle_pairs.f k l) (pairsM l):=by
 have:=pairs_l0 l hl hs l.length 0 [] (by omega) (by omega) (by simp)
 rw [List.drop_zero,List.nil_append] at this
 exact this
theorem leafs_size (l:List ByteArray):∀ x∈l.map leafD,x.size=32:=by
 intro x hx
 obtain ⟨y,_,rfl⟩:=List.mem_map.1 hx
 exact leafD_size y
theorem up_ev (n:Nat):∀ l:List ByteArray,l.length=n→1≤n→n≤1000→(∀ s∈l,s.size=32)→Ev (fun k=>merkle_Root.l0 k l) (topM l,0):=by
 induction n using Nat.strongRecOn with
 | _ n ih =>
  intro l hl h1 h2 hs
  refine Ev.succ ?_
  simp only [merkle_Root.l0]
  by_cases h:n=1
  ·
   obtain ⟨a,rfl⟩:=list1 l (by omega)
   refine Ev.pos rfl (Ev.pos (by simp) (Ev.some_ ?_))
   rw [topM_one]
   rfl
  ·
   refine Ev.neg (by omega) (Ev.bind (pairs_ev l (by omega) hs) ?_)
   have hp:=pairsM_length l
   rw [← pairs_top n l hl (by omega)]
   exact ih (pairsM l).length (by omega) _ rfl (by omega) (by omega) (pairsM_size l hs)
theorem mayM_zero {l:List ByteArray} (h:mayM l=0):1≤l.length∧l.length≤256∧∀ s∈l,s.size≤1024:=by
 unfold mayM at h
 split at h
 ·
  simp at h
 ·
  split at h
  ·
   simp at h
  ·
   split at h
   ·
    simp at h
   ·
    rename_i h1 h2 h3
    refine ⟨by omega,by omega,fun s hs=>?_⟩
    rw [Bool.not_eq_true,List.any_eq_false] at h3
    have:=h3 s hs
    unfold longB at this
    simp only [decide_eq_true_eq] at this
    omega
theorem Root_ev (l:List ByteArray):Ev (fun k=>merkle_Root.f k l) (if mayM l=0 then (topM (l.map leafD),0) else ((⟨#[]⟩:ByteArray),mayM l)):=by
 unfold merkle_Root.f
 refine Ev.call (show merkle_may.f l=some (mayM l) from rfl) ?_
 by_cases h:mayM l=0
 ·
  obtain ⟨h1,h2,h3⟩:=mayM_zero h
  rw [if_pos h]
  exact Ev.pos h (Ev.bind (digests_ev l (by omega) (fun s hs=>by have:=h3 s hs;omega)) (up_ev (l.map leafD).length _ rfl (by simpa using h1) (by simp;omega) (leafs_size l)))
 ·
  rw [if_neg h]
  exact Ev.neg h (Ev.some_ rfl)
theorem tdiv2 (i:Nat) (h:i < 1000000):wrap64 (Int.tdiv (i:Int) 2)=((i / 2:Nat):Int):=by
 rw [Int.tdiv_eq_ediv_of_nonneg (by omega)]
 unfold wrap64
 omega
theorem path_l0 (n:Nat):∀ (l:List ByteArray) (i:Nat) (acc:List ByteArray),l.length=n→1≤n→n≤256→i < n→acc.length+n≤2000→(∀ s∈l,s.size=32)→Ev (fun k=>merkle_Path.l0 k (i:Int) acc l) (acc ++ wayM l i,0):=by
 induction n using Nat.strongRecOn with
 | _ n ih =>
  intro l i acc hl h1 h2 hi ha hs
  refine Ev.succ ?_
  simp only [merkle_Path.l0]
  by_cases h:n=1
  ·
   obtain ⟨a,rfl⟩:=list1 l (by omega)
   refine Ev.neg (by simp) (Ev.some_ ?_)
   rw [wayM_one,List.append_nil]
  ·
   have hp:=pairsM_length l
   have hsb:sib i≤i+1:=by unfold sib;split <;> omega
   rw [sib_xor i (by omega),tdiv2 i (by omega),rdOf_at,way_step n l i hl (by omega) hi]
   refine Ev.pos (by omega) ?_
   unfold sibL
   by_cases hc:sib i < l.length
   ·
    have:=ih (pairsM l).length (by omega) (pairsM l) (i / 2) (acc ++ [l.getD (sib i) ByteArray.empty]) rfl (by omega) (by omega) (by omega) (by simp;omega) (pairsM_size l hs)
    rw [List.append_assoc] at this
    rw [if_pos hc]
    exact Ev.pos (by omega) (Ev.pos (by omega) (Ev.pos (by omega) (Ev.bind (pairs_ev l (by omega) hs) this)))
   ·
    have:=ih (pairsM l).length (by omega) (pairsM l) (i / 2) acc rfl (by omega) (by omega) (by omega) (by omega) (pairsM_size l hs)
    rw [if_neg hc]
    exact Ev.neg (by omega) (Ev.bind (pairs_ev l (by omega) hs) this)
def inP (n i:Int):Bool:=decide (1≤n∧n≤256∧0≤i∧i < n)
theorem in_f (n i:Int):merkle_in.f n i=some (inP n i):=by
 unfold merkle_in.f inP
 by_cases a:n≥1
 ·
  rw [if_pos a]
  by_cases b:n≤256
  ·
   rw [if_pos b]
   by_cases c:i≥0
   ·
    rw [if_pos c]
    by_cases d:i < n
    ·
     rw [decide_eq_true d,decide_eq_true (by omega)]
    ·
     rw [decide_eq_false d,decide_eq_false (by omega)]
   ·
    rw [if_neg c,decide_eq_false (by omega)]
  ·
   rw [if_neg b,decide_eq_false (by omega)]
 ·
  rw [if_neg a,decide_eq_false (by omega)]
def pathR (l:List ByteArray) (i:Int):List ByteArray×Int :=
 if mayM l=0 then (if inP l.length i=true then (wayM (l.map leafD) i.toNat,0) else ([],1)) else ([],mayM l)
theorem Path_ev (l:List ByteArray) (i:Int):Ev (fun k=>merkle_Path.f k l i) (pathR l i):=by
 unfold merkle_Path.f pathR
 refine Ev.call (show merkle_may.f l=some (mayM l) from rfl) ?_
 by_cases h:mayM l=0
 ·
  obtain ⟨h1,h2,h3⟩:=mayM_zero h
  rw [if_pos h]
  refine Ev.pos h (Ev.call (in_f _ _) ?_)
  by_cases c:inP l.length i=true
  ·
   rw [if_pos c]
   have c':=of_decide_eq_true c
   refine Ev.pos c (Ev.bind (digests_ev l (by omega) (fun s hs=>by have:=h3 s hs;omega)) ?_)
   have:=path_l0 (l.map leafD).length (l.map leafD) i.toNat [] rfl (by simpa using h1) (by simpa using h2) (by simp;omega) (by simp;omega) (leafs_size l)
   rw [show ((i.toNat:Nat):Int)=i by omega] at this
   exact this
  ·
   rw [if_neg c]
   exact Ev.neg c (Ev.some_ rfl)
 ·
  rw [if_neg h]
  exact Ev.neg h (Ev.some_ rfl)
/-! ### How long a path is -/
/-! ### The reference's lists -/
theorem refmay_l0 (l:List ByteArray) (hl:l.length≤256) (d:Nat):∀ i:Nat,i+d=l.length→Ev (fun k=>mosaicref03_May.l0 k l (i:Int)) (if (l.drop i).any longB=true then 2 else 0):=by
 induction d with
 | zero =>
  intro i hi
  refine Ev.succ ?_
  simp only [mosaicref03_May.l0]
  refine Ev.neg (by omega) (Ev.some_ ?_)
  rw [List.drop_of_length_le (by omega)]
  rfl
 | succ d ih =>
  intro i hi
  refine Ev.succ ?_
  simp only [mosaicref03_May.l0]
  rw [drop_getD l i (by omega),List.any_cons,rdOf_at,wrap_succ i (by omega)]
  refine Ev.pos (by omega) (Ev.pos (by omega) ?_)
  by_cases c:((l.getD i ByteArray.empty).size:Int) > 1024
  ·
   refine Ev.pos c (Ev.some_ ?_)
   rw [show longB (l.getD i ByteArray.empty)=true from decide_eq_true c]
   rfl
  ·
   refine Ev.neg c ((ih (i+1) (by omega)).to ?_)
   rw [show longB (l.getD i ByteArray.empty)=false from decide_eq_false c,Bool.false_or]
theorem refMay_ev (l:List ByteArray):Ev (fun k=>mosaicref03_May.f k l) (mayM l):=by
 unfold mosaicref03_May.f mayM
 by_cases a:l.length=0
 ·
  rw [if_pos a]
  exact Ev.pos (by omega) (Ev.some_ rfl)
 by_cases b:256 < l.length
 ·
  rw [if_neg a,if_pos b]
  exact Ev.neg (by omega) (Ev.pos (by omega) (Ev.some_ rfl))
 rw [if_neg a,if_neg b]
 exact Ev.neg (by omega) (Ev.neg (by omega) (refmay_l0 l (by omega) l.length 0 (by omega)))
theorem topM_size (n:Nat):∀ l:List ByteArray,l.length=n→1≤n→(∀ s∈l,s.size=32)→(topM l).size=32:=by
 intro l hl h1 hs
 by_cases h:n=1
 ·
  obtain ⟨a,rfl⟩:=list1 l (by omega)
  rw [topM_one]
  exact hs a (by simp)
 ·
  rw [topM_two l (by omega)]
  exact knotD_size _ _
theorem refTop_ev (n:Nat):∀ l:List ByteArray,l.length=n→1≤n→n≤1000→(∀ s∈l,s.size≤60000)→Ev (fun k=>mosaicref03_Top.f k l) (topM (l.map leafD)):=by
 induction n using Nat.strongRecOn with
 | _ n ih =>
  intro l hl h1 hn hs
  refine Ev.succ ?_
  simp only [mosaicref03_Top.f]
  by_cases h:n=1
  ·
   obtain ⟨a,rfl⟩:=list1 l (by omega)
   have ha:=hs a (by simp)
   have hz:=leafT_size a
   refine Ev.pos rfl (Ev.pos (by simp) (Ev.call (leafText_f a (by omega)) (Ev.bind (refsum_ev _ (by omega)) (Ev.some_ ?_))))
   show leafD a=topM [leafD a]
   rw [topM_one]
  ·
   have hlt:=halfN_lt l.length (by omega)
   have hps:=halfN_pos l.length
   have e1:(l.take (halfN l.length)).length=halfN l.length:=by rw [List.length_take];omega
   have e2:(l.drop (halfN l.length)).length=l.length - halfN l.length:=List.length_drop
   have i1:=ih _ (by omega) (l.take (halfN l.length)) e1 (by omega) (by omega) (fun s hx=>hs s (List.mem_of_mem_take hx))
   have i2:=ih _ (by omega) (l.drop (halfN l.length)) e2 (by omega) (by omega) (fun s hx=>hs s (List.mem_of_mem_drop hx))
   have z1:=topM_size _ ((l.take (halfN l.length)).map leafD) rfl (by rw [List.length_map,e1];omega) (leafs_size _)
   have z2:=topM_size _ ((l.drop (halfN l.length)).map leafD) rfl (by rw [List.length_map,e2];omega) (leafs_size _)
   have hz:=knotT_size (topM ((l.take (halfN l.length)).map leafD)) (topM ((l.drop (halfN l.length)).map leafD))
   refine Ev.neg (by omega) (Ev.bind (half_ev l.length (by omega) (by omega)) (Ev.pos (by omega) (Ev.pos (by omega) (Ev.bind i1 (Ev.bind i2 (Ev.call (knotText_f _ _ (by omega)) (Ev.bind (refsum_ev _ (by omega)) (Ev.some_ ?_))))))))
   rw [topM_two (l.map leafD) (by rw [List.length_map];omega),List.length_map,List.map_take,List.map_drop]
   rfl
theorem same_l0 (l:List ByteArray) (hl:l.length≤9223372036854775806) (d:Nat):∀ i:Nat,i+d=l.length→Ev (fun k=>mosaicref03_Same.l0 k l l (i:Int)) true:=by
 induction d with
 | zero =>
  intro i hi
  refine Ev.succ ?_
  simp only [mosaicref03_Same.l0]
  exact Ev.neg (by omega) (Ev.some_ rfl)
 | succ d ih =>
  intro i hi
  refine Ev.succ ?_
  simp only [mosaicref03_Same.l0]
  rw [wrap_succ i (by omega)]
  exact Ev.pos (by omega) (Ev.pos (by omega) (Ev.pos (by omega) (Ev.pos trivial (ih (i+1) (by omega)))))
theorem same_ev (l:List ByteArray) (hl:l.length≤9223372036854775806):Ev (fun k=>mosaicref03_Same.f k l l) true:=Ev.pos rfl (same_l0 l hl l.length 0 (by omega))
theorem few_l0 (l:List ByteArray) (m:Int) (hl:l.length≤1000) (d:Nat):∀ i:Nat,i+d=l.length→∃ b,Ev (fun k=>mosaiclaw03_few.l0 k l m (i:Int)) b∧(b=true→∀ s∈l.drop i,(s.size:Int)≤m):=by
 induction d with
 | zero =>
  intro i hi
  refine ⟨true,Ev.succ ?_,fun _ s hs=>?_⟩
  ·
   simp only [mosaiclaw03_few.l0]
   exact Ev.neg (by omega) (Ev.some_ rfl)
  ·
   rw [List.drop_of_length_le (by omega)] at hs
   simp at hs
 | succ d ih =>
  intro i hi
  obtain ⟨b,h1,h2⟩:=ih (i+1) (by omega)
  by_cases c:((l.getD i ByteArray.empty).size:Int) > m
  ·
   refine ⟨false,Ev.succ ?_,fun h=>by simp at h⟩
   simp only [mosaiclaw03_few.l0]
   rw [rdOf_at]
   exact Ev.pos (by omega) (Ev.pos (by omega) (Ev.pos c (Ev.some_ rfl)))
  ·
   refine ⟨b,Ev.succ ?_,fun hb s hs=>?_⟩
   ·
    simp only [mosaiclaw03_few.l0]
    rw [rdOf_at,wrap_succ i (by omega)]
    exact Ev.pos (by omega) (Ev.pos (by omega) (Ev.neg c h1))
   ·
    rw [drop_getD l i (by omega)] at hs
    rcases List.mem_cons.1 hs with rfl|hs
    ·
     omega
    ·
     exact h2 hb s hs
theorem few_ev (l:List ByteArray) (n m:Int) (hn:n≤1000):∃ b,Ev (fun k=>mosaiclaw03_few.f k l n m) b∧(b=true→(l.length:Int)≤n∧∀ s∈l,(s.size:Int)≤m):=by
 unfold mosaiclaw03_few.f
 by_cases c:(l.length:Int) > n
 ·
  exact ⟨false,Ev.pos c (Ev.some_ rfl),fun h=>by simp at h⟩
 ·
  obtain ⟨b,h1,h2⟩:=few_l0 l m (by omega) l.length 0 (by omega)
  exact ⟨b,Ev.neg c h1,fun hb=>⟨by omega,h2 hb⟩⟩
/-! ### The page's example -/
theorem halfN_3:halfN 3=2:=by decide
theorem top3 (a b c:ByteArray):topM [a,b,c]=knotD (knotD a b) c:=by
 rw [topM_two _ (by simp)]
 show knotD (topM ([a,b,c].take (halfN 3))) (topM ([a,b,c].drop (halfN 3)))=_
 rw [halfN_3]
 show knotD (topM [a,b]) (topM [c])=_
 rw [topM_one,topM_two _ (by simp)]
 show knotD (knotD (topM ([a,b].take (halfN 2))) (topM ([a,b].drop (halfN 2)))) c=_
 rw [halfN_2]
 show knotD (knotD (topM [a]) (topM [b])) c=_
 rw [topM_one,topM_one]
theorem way30 (a b c:ByteArray):wayM [a,b,c] 0=[b,c]:=by
 rw [wayM_left _ _ (by simp) (by show 0 < halfN 3;rw [halfN_3];omega)]
 show wayM ([a,b,c].take (halfN 3)) 0 ++ [topM ([a,b,c].drop (halfN 3))]=_
 rw [halfN_3]
 show wayM [a,b] 0 ++ [topM [c]]=_
 rw [topM_one,wayM_left _ _ (by simp) (by show 0 < halfN 2;rw [halfN_2];omega)]
 show (wayM ([a,b].take (halfN 2)) 0 ++ [topM ([a,b].drop (halfN 2))]) ++ [c]=_
 rw [halfN_2]
 show (wayM [a] 0 ++ [topM [b]]) ++ [c]=_
 rw [topM_one,wayM_one]
 rfl
theorem way32 (a b c:ByteArray):wayM [a,b,c] 2=[knotD a b]:=by
 rw [wayM_right _ _ (by simp) (by show ¬ 2 < halfN 3;rw [halfN_3];omega)]
 show wayM ([a,b,c].drop (halfN 3)) (2 - halfN 3) ++ [topM ([a,b,c].take (halfN 3))]=_
 rw [halfN_3]
 show wayM [c] 0 ++ [topM [a,b]]=_
 rw [wayM_one,topM_two _ (by simp)]
 show [] ++ [knotD (topM ([a,b].take (halfN 2))) (topM ([a,b].drop (halfN 2)))]=_
 rw [halfN_2]
 show [] ++ [knotD (topM [a]) (topM [b])]=_
 rw [topM_one,topM_one]
 rfl
theorem awake03T:Ev (fun k=>mosaiclaw03_awakeT.f k) true:=by
 unfold mosaiclaw03_awakeT.f
 have hm:mayM [(⟨#[97]⟩:ByteArray),(⟨#[98]⟩:ByteArray),(⟨#[99]⟩:ByteArray)]=0:=by decide +kernel
 have hr:=Root_ev [(⟨#[97]⟩:ByteArray),(⟨#[98]⟩:ByteArray),(⟨#[99]⟩:ByteArray)]
 have p0:=Path_ev [(⟨#[97]⟩:ByteArray),(⟨#[98]⟩:ByteArray),(⟨#[99]⟩:ByteArray)] 0
 have p2:=Path_ev [(⟨#[97]⟩:ByteArray),(⟨#[98]⟩:ByteArray),(⟨#[99]⟩:ByteArray)] 2
 unfold pathR at p0 p2
 rw [if_pos hm] at hr p0 p2
 rw [if_pos (by decide)] at p0 p2
 simp only [List.map_cons,List.map_nil] at hr p0 p2
 rw [top3] at hr
 rw [show (0:Int).toNat=0 from rfl,way30] at p0
 rw [show (2:Int).toNat=2 from rfl,way32] at p2
 have za:(⟨#[97]⟩:ByteArray).size≤65535:=by decide
 have zb:(⟨#[98]⟩:ByteArray).size≤65535:=by decide
 have zc:(⟨#[99]⟩:ByteArray).size≤65535:=by decide
 have sa:=leafD_size ⟨#[97]⟩
 have sb:=leafD_size ⟨#[98]⟩
 have sc:=leafD_size ⟨#[99]⟩
 have sk:=knotD_size (leafD ⟨#[97]⟩) (leafD ⟨#[98]⟩)
 refine Ev.some_bind (Ev.bind hr (Ev.bind p0 (Ev.bind p2 (Ev.call (leaf_f _ za) (Ev.call (leaf_f _ zb) (Ev.call (Knot_f _ _ (by omega)) (Ev.pos rfl (Ev.pos rfl (Ev.pos rfl (Ev.call (leaf_f _ zc) (Ev.call (Knot_f _ _ (by omega)) (Ev.pos rfl (Ev.pos rfl (Ev.pos (by simp) (Ev.call (leaf_f _ zb) (Ev.pos rfl (Ev.pos rfl (Ev.pos (by simp) (Ev.pos rfl (Ev.some_ ?_))))))))))))))))))))
 rw [knotD_size]
 rfl
theorem awake03:Ev (fun k=>mosaiclaw03_awake.f k) true:=by
 obtain ⟨K,h⟩:=awake03T
 refine ⟨K,fun k hk=>?_⟩
 show (if mosaiclaw03_awakeT.f k=some true then some true else none)=some true
 exact if_pos (h k hk)
end Go.Proofs.Ytelcaepenfjloaa.Pure
/-! #### Pr110 -/
namespace Go.Proofs.Ytelcaepenfjloaa.Print
open Go.RowKit Go.Proofs.YtelcaepenfjloaaW.PrintWords Go.Proofs.YtelcaepenfjloaaW.PrintLast Go.Proofs.YtelcaepenfjloaaW.PrintMore
attribute [local go_sem] max2_int min2_int max_two min_two max_three min_three max_four min_four
set_option linter.unusedVariables false
set_option linter.unusedSimpArgs false
/-! ### merkle_climb: function 110 -/
def merkle_climb.l0:Nat→Int→Int→ByteArray→List ByteArray→List ByteArray→Option (ByteArray×List ByteArray)
 | 0,_,_,_,_,_=>none
 | k+1,x0,x1,x2,x3,x10=>if x0 > 1 then (if (Go.bits .xor .i64 x1 1)≥x0 then (merkle_climb.l0 k (wrap64 (Int.tdiv (wrap64 (x0+1)) 2)) (wrap64 (Int.tdiv x1 2)) x2 x3 x10) else (if 0 < (x3.length:Int) then ((merkle_knot.f x2 (rdOf ByteArray.empty x3 0)).bind fun t589=>(if (Int.tmod x1 2)=1 then ((merkle_knot.f (rdOf ByteArray.empty x3 0) x2).bind fun t591=>(if x10.length < 8796093022208 then ((sha_Sum.f t591).bind fun t595=>(if 1≤(x3.length:Int) then (merkle_climb.l0 k (wrap64 (Int.tdiv (wrap64 (x0+1)) 2)) (wrap64 (Int.tdiv x1 2)) t595 (x3.drop 1) (x10 ++ [t591])) else (none))) else (none))) else (if x10.length < 8796093022208 then ((sha_Sum.f t589).bind fun t604=>(if 1≤(x3.length:Int) then (merkle_climb.l0 k (wrap64 (Int.tdiv (wrap64 (x0+1)) 2)) (wrap64 (Int.tdiv x1 2)) t604 (x3.drop 1) (x10 ++ [t589])) else (none))) else (none)))) else (none))) else (some (x2,x10))
def merkle_climb.f (k:Nat) (a0:Int) (a1:Int) (a2:ByteArray) (l3:List ByteArray):Option (ByteArray×List ByteArray):=merkle_climb.l0 k a0 a1 a2 l3 ([]:List ByteArray)
theorem merkle_climb.mono_l:∀ k,(∀ y0 y1 y2 y3 y4,LeO (merkle_climb.l0 k y0 y1 y2 y3 y4) (merkle_climb.l0 (k+1) y0 y1 y2 y3 y4))
 | 0=>fun _ _ _ _ _ r h=>by simp [merkle_climb.l0] at h
 | k+1=>by
  have ih0:=merkle_climb.mono_l k
  ·
   intro y0 y1 y2 y3 y4
   unfold merkle_climb.l0
   repeat' first
   | (with_reducible exact ih0 _ _ _ _ _)
   | (with_reducible exact LeO.refl _)
   | (with_reducible exact LeO.none _)
   | (with_reducible refine LeO.ite ?_ ?_)
   | (with_reducible refine LeO.bind ?_ (fun _=>?_))
   | exact ih0 _ _ _ _ _
   | exact LeO.none _
   | refine LeO.ite ?_ ?_
   | refine LeO.bind ?_ (fun _=>?_)
theorem merkle_climb.mono:∀ a0 a1 a2 a3 k,LeO (merkle_climb.f k a0 a1 a2 a3) (merkle_climb.f (k+1) a0 a1 a2 a3):=by
 intro a0 a1 a2 a3 k
 have ih0:=merkle_climb.mono_l k
 unfold merkle_climb.f
 repeat' first
   | (with_reducible exact ih0 _ _ _ _ _)
   | (with_reducible exact LeO.refl _)
   | (with_reducible exact LeO.none _)
   | (with_reducible refine LeO.ite ?_ ?_)
   | (with_reducible refine LeO.bind ?_ (fun _=>?_))
   | exact ih0 _ _ _ _ _
   | exact LeO.none _
   | refine LeO.ite ?_ ?_
   | refine LeO.bind ?_ (fun _=>?_)
set_option maxHeartbeats 8000000 in
set_option maxRecDepth 100000 in
theorem merkle_climb.calls (k:Nat) (a0:Int) (a1:Int) (a2:ByteArray) (P3_:Nat→Prop) (A3:Option Addr) (c3:Nat) (l3:List ByteArray) (r1:ByteArray) (r2:List ByteArray) (w:World) (hs3:Kd.V Kd.string 9 w w.heap.size (fun k_=>P3_ k_) (.slice A3 l3.length c3) l3) (h:merkle_climb.f k a0 a1 a2 l3=some (r1,r2)) :
  Calls Try.prog 110 #[.int .i64 a0,.int .i64 a1,.string a2,.slice A3 l3.length c3] w fun e w'=>∃ v1_:Value,e=.returned (.tuple #[.string r1,v1_])∧Kd.R Kd.string 9 w' w.heap.size (fun k_=>(w.heap.size≤k_)) v1_ r2∧Below w.heap.size w w':=by
 have HO3:=Aside0.mk (show Kd.V Kd.string 9 w w.heap.size (fun k_=>(P3_ k_∨w.heap.size≤k_)) (.slice A3 l3.length c3) l3 from Kd.V_mono hs3 (fun k_ hk=>.inl hk))
 have HB:=Aside0.mk (Below.refl w.heap.size w)
 have H:(merkle_climb.l0 k a0 a1 a2 l3 ([]:List ByteArray))=some (r1,r2):=h
 clear h
 have H':=Aside0.mk H
 clear H
 go_enter Try.func110,Try.ntmps110
 go_wp2
 go_loopg [0,1,2,3,10] k (fun kq v0 v1 v2 v3 v10 w'=>∃ (x0_1:Int) (x1_1:Int) (x2_1:ByteArray) (x3_1:List ByteArray) (x10_1:List ByteArray),v0=.int .i64 x0_1∧v1=.int .i64 x1_1∧v2=.string x2_1∧Aside0 (merkle_climb.l0 kq x0_1 x1_1 x2_1 x3_1 x10_1=some (r1,r2))∧Aside0 (kq≤k)∧Aside0 (Kd.V Kd.string 9 w' w.heap.size (fun k_=>(P3_ k_∨w.heap.size≤k_)∧some k_≠(v10:Value).ownBlock) v3 x3_1)∧Aside0 (Kd.R Kd.string 9 w' w.heap.size (fun k_=>(w.heap.size≤k_)) v10 x10_1)∧Aside0 (Below w.heap.size w w'))
 case atStart=>exact ⟨(a0),(a1),(a2),(l3),(([]:List ByteArray)),(by first|rfl|(simp;done)|(simp [*];done)),(by first|rfl|(simp;done)|(simp [*];done)),(by first|rfl|(simp;done)|(simp [*];done)),H',⟨Nat.le_refl _⟩,⟨by (with_reducible repeat (first|apply Kd.V_alloc|apply Kd.V_drewN|apply Kd.V_drew));exact Kd.V_mono HO3.out (fun _ hk=>⟨hk,(by simp [Value.ownBlock])⟩)⟩,⟨by first|exact Kd.R_nil _ _ _ _ _|exact Kd.N_nil _ _ _ _ _|exact Kd.V_nil _ _ _ _ _|exact Kd.Q_nil _ _ _ _ _|exact Kd.S_nil _ _ _ _ _⟩,⟨by repeat (first|(with_reducible first|exact HB.out|apply below_alloc|apply pw_below_drewN|apply below_drew1)|exact HB.out)⟩⟩
 case round =>
  clear H'
  try clear c1
  try clear p2
  try clear c3
  obtain ⟨x0_1,x1_1,x2_1,x3_1,x10_1,rfl,rfl,rfl,HA,HK1,HO_3,HO_10,HB⟩:=hrel
  cases gk with
  | zero=>exact absurd HA.out (by simp [merkle_climb.l0])
  | succ k1 =>
   have H:=HA.out
   clear HA
   simp only [merkle_climb.l0] at H
   by_cases c5:x0_1 > 1
   ·
    rw [if_pos c5] at H
    have c5b0:decide (1 < x0_1)=true:=decide_eq_true c5
    clear c5
    by_cases c6:(Go.bits .xor .i64 x1_1 1)≥x0_1
    ·
     rw [if_pos c6] at H
     have c6b0:decide (x0_1≤(Go.bits .xor .i64 x1_1 1))=true:=decide_eq_true c6
     clear c6
     have H':=Aside0.mk H
     clear H
     go_wp2
     go_roundg k1
     case measure=>have:=HK1.out;omega
     case rel=>exact ⟨(wrap64 (Int.tdiv (wrap64 (x0_1+1)) 2)),(wrap64 (Int.tdiv x1_1 2)),(x2_1),(x3_1),(x10_1),(by first|rfl|(simp;done)|(simp [*];done)),(by first|rfl|(simp;done)|(simp [*];done)),(by first|rfl|(simp;done)|(simp [*];done)),H',⟨by have:=HK1.out;omega⟩,⟨by (with_reducible repeat (first|apply Kd.V_alloc|apply Kd.V_drewN|apply Kd.V_drew));exact HO_3.out⟩,⟨by (with_reducible repeat (first|apply Kd.R_alloc|apply Kd.R_drewN|apply Kd.R_drew));exact HO_10.out⟩,⟨by repeat (first|(with_reducible first|exact HB.out|apply below_alloc|apply pw_below_drewN|apply below_drew1)|exact HB.out)⟩⟩
    ·
     rw [if_neg c6] at H
     have c6b0:decide (x0_1≤(Go.bits .xor .i64 x1_1 1))=false:=decide_eq_false c6
     clear c6
     by_cases c7:0 < (x3_1.length:Int)
     ·
      rw [if_pos c7] at H
      have c7b0:decide (0 < (x3_1.length:Int))=true:=decide_eq_true c7
      have c7b1:decide (0 < x3_1.length)=true:=decide_eq_true (by omega)
      clear c7
      replace H:=Option.bind_eq_some_iff.mp H
      obtain ⟨t589,A80,H⟩:=H
      replace H:(if (Int.tmod x1_1 2)=1 then ((merkle_knot.f (rdOf ByteArray.empty x3_1 0) x2_1).bind fun t591=>(if x10_1.length < 8796093022208 then ((sha_Sum.f t591).bind fun t595=>(if 1≤(x3_1.length:Int) then (merkle_climb.l0 k1 (wrap64 (Int.tdiv (wrap64 (x0_1+1)) 2)) (wrap64 (Int.tdiv x1_1 2)) t595 (x3_1.drop 1) (x10_1 ++ [t591])) else (none))) else (none))) else (if x10_1.length < 8796093022208 then ((sha_Sum.f t589).bind fun t604=>(if 1≤(x3_1.length:Int) then (merkle_climb.l0 k1 (wrap64 (Int.tdiv (wrap64 (x0_1+1)) 2)) (wrap64 (Int.tdiv x1_1 2)) t604 (x3_1.drop 1) (x10_1 ++ [t589])) else (none))) else (none)))=some (r1,r2):=H
      have A8:=Aside0.mk A80
      clear A80
      by_cases c9:(Int.tmod x1_1 2)=1
      ·
       rw [if_pos c9] at H
       have c9b0:((Int.tmod x1_1 2) == 1)=true:=beq_iff_eq.mpr c9
       have c9b1:((Int.tmod x1_1 2) != 1)=false:=bne_eq_false_iff_eq.mpr c9
       clear c9
       replace H:=Option.bind_eq_some_iff.mp H
       obtain ⟨t591,A100,H⟩:=H
       replace H:(if x10_1.length < 8796093022208 then ((sha_Sum.f t591).bind fun t595=>(if 1≤(x3_1.length:Int) then (merkle_climb.l0 k1 (wrap64 (Int.tdiv (wrap64 (x0_1+1)) 2)) (wrap64 (Int.tdiv x1_1 2)) t595 (x3_1.drop 1) (x10_1 ++ [t591])) else (none))) else (none))=some (r1,r2):=H
       have A10:=Aside0.mk A100
       clear A100
       by_cases c11:x10_1.length < 8796093022208
       ·
        rw [if_pos c11] at H
        have LMc11:=Aside0.mk c11
        clear c11
        obtain ⟨y592,hy592⟩:∃ y_:List ByteArray,y_=(x10_1 ++ [t591]):=⟨_,rfl⟩
        replace H:((sha_Sum.f t591).bind fun t595=>(if 1≤(x3_1.length:Int) then (merkle_climb.l0 k1 (wrap64 (Int.tdiv (wrap64 (x0_1+1)) 2)) (wrap64 (Int.tdiv x1_1 2)) t595 (x3_1.drop 1) y592) else (none)))=some (r1,r2):=by first|(rw [hy592];with_reducible exact H)|(have H2_:=(Option.bind_some _ _).symm.trans H;rw [hy592];with_reducible exact H2_)|(have H2_:=(Option.bind_some _ _).symm.trans H;with_reducible exact H2_)|with_reducible exact H|(rw [hy592];exact H)|exact H
        have Ny592:=Aside0.mk hy592
        clear hy592
        replace H:=Option.bind_eq_some_iff.mp H
        obtain ⟨t595,A120,H⟩:=H
        replace H:(if 1≤(x3_1.length:Int) then (merkle_climb.l0 k1 (wrap64 (Int.tdiv (wrap64 (x0_1+1)) 2)) (wrap64 (Int.tdiv x1_1 2)) t595 (x3_1.drop 1) y592) else (none))=some (r1,r2):=H
        have A12:=Aside0.mk A120
        clear A120
        by_cases c13:1≤(x3_1.length:Int)
        ·
         rw [if_pos c13] at H
         have c13b0:=eq_true c13
         have c13b1:decide (1≤(x3_1.length:Int))=true:=decide_eq_true c13
         clear c13
         obtain ⟨y596,hy596⟩:∃ y_:List ByteArray,y_=(x3_1.drop 1):=⟨_,rfl⟩
         replace H:(merkle_climb.l0 k1 (wrap64 (Int.tdiv (wrap64 (x0_1+1)) 2)) (wrap64 (Int.tdiv x1_1 2)) t595 y596 y592)=some (r1,r2):=by first|(rw [hy596];with_reducible exact H)|(have H2_:=(Option.bind_some _ _).symm.trans H;rw [hy596];with_reducible exact H2_)|(have H2_:=(Option.bind_some _ _).symm.trans H;with_reducible exact H2_)|with_reducible exact H|(rw [hy596];exact H)|exact H
         have Ny596:=Aside0.mk hy596
         clear hy596
         have H':=Aside0.mk H
         clear H
         obtain ⟨Ao14,co14,eo14⟩:=Kd.V_slice HO_3.out
         subst eo14
         have p588:0≤(0:Int):=(by omega)
         have q588:0 < (x3_1.length:Int):=of_decide_eq_true (by first|(with_reducible assumption)|assumption)
         obtain ⟨ad588,e588,hx588_0⟩:=Kd.at_string (Kd.V_reads' HO_3.out).2.2 0 p588 q588
         cases e588
         have qi588:(0 < x3_1.length)=True:=eq_true (by omega)
         (try rw [show ((0:Int)).toNat=0 from rfl] at hx588_0)
         (try rw [Addr.add_zero'] at hx588_0)
         replace p588:=eq_true p588
         replace q588:=eq_true q588
         try go_wp2_with (first|((with_reducible refine gate_callee (f:=96) rfl ?_);refine goesL_ (some 27) rfl rfl Try.func96 (by kernel_rfl) rfl #[.string x2_1,.string (rdOf ByteArray.empty x3_1 0)] rfl (by (try simp only [List.map_toArray,List.map_cons,List.map_nil]);first|done|rfl|(simp only [List.length_drop,List.length_take];rfl)) ?_;(with_reducible refine (merkle_knot.calls x2_1 (rdOf ByteArray.empty x3_1 0) t589 _ A8.out).mono ?_);rintro e w' ⟨rfl,⟨nd,rfl⟩⟩;refine ⟨_,rfl,?_⟩;have p590:0≤(0:Int):=(by omega);have q590:0 < (x3_1.length:Int):=of_decide_eq_true (by first|(with_reducible assumption)|assumption);obtain ⟨ad590,e590,hx590_0⟩:=Kd.at_string (Kd.V_reads' HO_3.out).2.2 0 p590 q590;obtain rfl:ad588=ad590:=(by injection e590);have qi590:(0 < x3_1.length)=True:=eq_true (by omega);(try rw [show ((0:Int)).toNat=0 from rfl] at hx590_0);(try rw [Addr.add_zero'] at hx590_0);replace p590:=eq_true p590;replace q590:=eq_true q590)|((with_reducible refine gate_callee (f:=96) rfl ?_);refine goesL_ (some 35) rfl rfl Try.func96 (by kernel_rfl) rfl #[.string (rdOf ByteArray.empty x3_1 0),.string x2_1] rfl (by (try simp only [List.map_toArray,List.map_cons,List.map_nil]);first|done|rfl|(simp only [List.length_drop,List.length_take];rfl)) ?_;(with_reducible refine (merkle_knot.calls (rdOf ByteArray.empty x3_1 0) x2_1 t591 _ A10.out).mono ?_);rintro e w' ⟨rfl,⟨nd,rfl⟩⟩;refine ⟨_,rfl,?_⟩)|((with_reducible refine gate_builtin (b:=.append) (xs:=#[.tmp 36,.tmp 38]) rfl ?_);at_builtin;refine Kd.R_append Kd.string (w0:=w) w.heap.size rfl (.tmp 36) (.tmp 38) 39 9 (.string ⟨#[]⟩) 16 rfl Try.underlying39 info9 rfl (by decide) (by omega) u10 x10_1 t591 [.string t591] (fun k_=>(w.heap.size≤k_)) (fun _=>False) rfl rfl ?aP (fun _ hk=>hk.elim) ?aF ?aO ?aB ?aS ?aL ?_;(case aP=>exact rfl);(case aB=>exact (by repeat (first|(with_reducible first|exact HB.out|apply below_alloc|apply pw_below_drewN|apply below_drew1)|exact HB.out)));(case aF=>exact (fun k_ hk=>(Nat.le_trans (below_size (by repeat (first|(with_reducible first|exact HB.out|apply below_alloc|apply pw_below_drewN|apply below_drew1)|exact HB.out))) hk)));(case aO=>exact (by (with_reducible repeat (first|apply Kd.R_alloc|apply Kd.R_drewN|apply Kd.R_drew));exact HO_10.out));(case aS=>exact (below_size (by repeat (first|(with_reducible first|exact HB.out|apply below_alloc|apply pw_below_drewN|apply below_drew1)|exact HB.out))));(case aL=>have:=LMc11.out;omega);intro v593 w15 ho hb hg hat;rw [← Ny592.out] at ho;have n0_:=Aside0.mk (Kd.V_afterv (ok:=(fun k_=>(P3_ k_∨w.heap.size≤k_))) (by (with_reducible repeat (first|apply Kd.V_alloc|apply Kd.V_drewN|apply Kd.V_drew));exact HO_3.out) hg hat);have n1_:=Aside0.mk (hb);have n2_:=Aside0.mk (ho);clear HO_3;clear HB;clear HO_10;have HO_3:=n0_;have HB:=n1_;have HO594:=n2_;clear n0_ n1_ n2_;clear ho hb hg hat))
         have n0_:=Aside0.mk (Kd.V_drew HO_3.out)
         have n1_:=Aside0.mk (Kd.R_drew HO594.out)
         have n2_:=Aside0.mk (below_drew1 HB.out)
         clear HO_3
         clear HO594
         clear HB
         have HO_3:=n0_
         have HO594:=n1_
         have HB:=n2_
         clear n0_ n1_ n2_
         have q17:(1:Int)≤((x3_1.length:Int):Int):=of_decide_eq_true (by first|(with_reducible assumption)|assumption)
         obtain ⟨i017,hi017,_,hsz17,_⟩:=info_parts info9
         have hroom17:x3_1.length≤co14:=(Kd.V_reads' HO_3.out).2.1
         have hC17:Kd.F Kd.string _ _ (some ad588) x3_1.length x3_1:=(Kd.V_at (base:=w.heap.size) HO_3.out).2.2
         have hcut17:=cut_from (P:=Try.prog) 39 9 .i64 Try.underlying39 hi017 1 hsz17 (some ad588) x3_1.length co14 1 (by omega) q17
         have hr17:=Kd.F_cut (m:=(1:Int).toNat) (c:=co14) hC17 (by omega) hroom17
         obtain ⟨A17,hA17⟩:∃ A1,A1=(if co14=(1:Int).toNat then (some ad588) else ((some ad588):Option Addr).map (·.add ((1:Int).toNat * 1))):=⟨_,rfl⟩
         obtain ⟨c17,hc17⟩:∃ c1,c1=co14 - (1:Int).toNat:=⟨_,rfl⟩
         have hy17:y596.length=x3_1.length - (1:Int).toNat:=(by rw [Ny596.out,List.length_drop] <;> omega)
         rw [show (x3_1).drop (1:Int).toNat=y596 from Ny596.out.symm] at hr17
         replace hr17:Kd.F Kd.string _ _ A17 y596.length y596:=(by rw [hA17];exact hr17)
         rw [← hy17,← hA17,← hc17] at hcut17
         have HO600:=Aside0.mk (show Kd.V Kd.string 9 _ w.heap.size _ (.slice A17 y596.length c17) y596 from Kd.V_mk (by rw [hy17,hc17];exact Nat.sub_le_sub_right hroom17 _) hr17)
         have HC600:=Aside0.mk (show y596.length≤c17 from by rw [hy17,hc17];exact Nat.sub_le_sub_right hroom17 _)
         clear hr17 hC17 hroom17 hi017 hsz17 hc17
         have KY17:=Aside0.mk hy17
         have KA17:=Aside0.mk hA17
         clear hy17 hA17
         replace q17:=eq_true q17
         refine start_ (n:=6) (S:=fun w'=>True) (ds:=[]) #[false,false,false,false,false,false] (by kernel_rfl) rfl rfl trivial (fun hHeld=>?_)
         generalize w15.drew=w16 at HO_3 HO594 HB HO600 hHeld ⊢
         refine pure_ (i:=0) (N:=some 40) (v:=?_) (a':=?_) #[true,false,false,false,false,false] rfl rfl (by kernel_rfl) (fun _ _ _ h=>h) (Or.inl ⟨by rfl,?_⟩) ?_ ?_
         rotate_left
         ·
          intro w'
          go_simp
          with_reducible rfl
         rotate_left
         ·
          simp only [Act.put,List.setIfInBounds_toArray,List.set_cons_zero,List.set_cons_succ,i64_w,i32_w]
          rfl
         refine pure_ (i:=2) (N:=some 42) (v:=?_) (a':=?_) #[true,false,true,false,false,false] rfl rfl (by kernel_rfl) (fun _ _ _ h=>h) (Or.inl ⟨by rfl,?_⟩) ?_ ?_
         rotate_left
         ·
          intro w'
          go_simp
          with_reducible rfl
         rotate_left
         ·
          simp only [Act.put,List.setIfInBounds_toArray,List.set_cons_zero,List.set_cons_succ,i64_w,i32_w]
          rfl
         refine pure_ (i:=3) (N:=some 43) (v:=?_) (a':=?_) #[true,false,true,true,false,false] rfl rfl (by kernel_rfl) (fun _ _ _ h=>h) (Or.inl ⟨by rfl,?_⟩) ?_ ?_
         rotate_left
         ·
          intro w'
          go_simp
          with_reducible rfl
         rotate_left
         ·
          simp only [Act.put,List.setIfInBounds_toArray,List.set_cons_zero,List.set_cons_succ,i64_w,i32_w]
          rfl
         refine one_ (i:=1) (N:=some 41) #[true,true,true,true,false,false] rfl rfl (by kernel_rfl) (by decide) (fun K hK=>?_)
         refine goes_ Try.func26 (by kernel_rfl) rfl #[.string t591] (by rfl) rfl rfl (by (try simp only [List.map_toArray,List.map_cons,List.map_nil]);first|done|rfl|(simp only [List.length_drop,List.length_take];rfl)) ?_
         with_reducible refine (sha_Sum.calls t591 t595 _ A12.out).mono ?_
         rintro e w18 ⟨rfl,hb⟩
         refine ⟨_,rfl,?_⟩
         have n0_:=Aside0.mk (Kd.V_below (by (with_reducible repeat (first|apply Kd.V_alloc|apply Kd.V_drewN|apply Kd.V_drew));exact HO_3.out) hb)
         have n1_:=Aside0.mk (Kd.R_below (by (with_reducible repeat (first|apply Kd.R_alloc|apply Kd.R_drewN|apply Kd.R_drew));exact HO594.out) hb)
         have n2_:=Aside0.mk (Kd.V_below (by (with_reducible repeat (first|apply Kd.V_alloc|apply Kd.V_drewN|apply Kd.V_drew));exact HO600.out) hb)
         have n3_:=Aside0.mk (below_step (by repeat (first|(with_reducible first|exact HB.out|apply below_alloc|apply pw_below_drewN|apply below_drew1)|exact HB.out)) hb)
         clear HO_3
         clear HO594
         clear HO600
         clear HB
         have HO_3:=n0_
         have HO594:=n1_
         have HO600:=n2_
         have HB:=n3_
         clear n0_ n1_ n2_ n3_
         (try clear hb)
         (try clear hb2)
         (try clear hk)
         (try clear hi)
         refine hK.out _ _ trivial (fun hHeld=>?_)
         clear hK K
         refine norm_ (a':=?_) ?_ ?_
         rotate_left
         ·
          show Act.put _ (some 41) _=_
          simp only [Act.put,List.setIfInBounds_toArray,List.set_cons_zero,List.set_cons_succ,i64_w,i32_w]
          rfl
         refine pure_ (i:=4) (N:=some 2) (v:=?_) (a':=?_) #[true,true,true,true,true,false] rfl rfl (by kernel_rfl) (fun _ _ _ h=>h) (Or.inl ⟨by rfl,?_⟩) ?_ ?_
         rotate_left
         ·
          intro w'
          go_simp
          with_reducible rfl
         rotate_left
         ·
          simp only [Act.put,List.setIfInBounds_toArray,List.set_cons_zero,List.set_cons_succ,i64_w,i32_w]
          rfl
         refine pure_ (i:=5) (N:=some 3) (v:=?_) (a':=?_) #[true,true,true,true,true,true] rfl rfl (by kernel_rfl) (fun _ _ _ h=>h) (Or.inl ⟨by rfl,?_⟩) ?_ ?_
         rotate_left
         ·
          intro w'
          go_simp
          with_reducible rfl
         rotate_left
         ·
          simp only [Act.put,List.setIfInBounds_toArray,List.set_cons_zero,List.set_cons_succ,i64_w,i32_w]
          rfl
         refine done_ (by kernel_rfl) ?_
         try go_wp2
         go_roundg k1
         case measure=>have:=HK1.out;omega
         case rel=>exact ⟨(wrap64 (Int.tdiv (wrap64 (x0_1+1)) 2)),(wrap64 (Int.tdiv x1_1 2)),(t595),(y596),(y592),(by first|rfl|(simp;done)|(simp [*];done)),(by first|rfl|(simp;done)|(simp [*];done)),(by first|rfl|(simp;done)|(simp [*];done)),H',⟨by have:=HK1.out;omega⟩,⟨by (with_reducible repeat (first|apply Kd.V_alloc|apply Kd.V_drewN|apply Kd.V_drew));exact HO600.out⟩,⟨by (with_reducible repeat (first|apply Kd.R_alloc|apply Kd.R_drewN|apply Kd.R_drew));exact HO594.out⟩,⟨by repeat (first|(with_reducible first|exact HB.out|apply below_alloc|apply pw_below_drewN|apply below_drew1)|exact HB.out)⟩⟩
        ·
         rw [if_neg c13] at H
         exact absurd H (by simp)
       ·
        rw [if_neg c11] at H
        exact absurd H (by simp)
      ·
       rw [if_neg c9] at H
       have c9b0:((Int.tmod x1_1 2) == 1)=false:=beq_eq_false_iff_ne.mpr c9
       have c9b1:((Int.tmod x1_1 2) != 1)=true:=bne_iff_ne.mpr c9
       by_cases c19:x10_1.length < 8796093022208
       ·
        rw [if_pos c19] at H
        have LMc19:=Aside0.mk c19
        clear c19
        obtain ⟨y601,hy601⟩:∃ y_:List ByteArray,y_=(x10_1 ++ [t589]):=⟨_,rfl⟩
        replace H:((sha_Sum.f t589).bind fun t604=>(if 1≤(x3_1.length:Int) then (merkle_climb.l0 k1 (wrap64 (Int.tdiv (wrap64 (x0_1+1)) 2)) (wrap64 (Int.tdiv x1_1 2)) t604 (x3_1.drop 1) y601) else (none)))=some (r1,r2):=by first|(rw [hy601];with_reducible exact H)|(have H2_:=(Option.bind_some _ _).symm.trans H;rw [hy601];with_reducible exact H2_)|(have H2_:=(Option.bind_some _ _).symm.trans H;with_reducible exact H2_)|with_reducible exact H|(rw [hy601];exact H)|exact H
        have Ny601:=Aside0.mk hy601
        clear hy601
        replace H:=Option.bind_eq_some_iff.mp H
        obtain ⟨t604,A200,H⟩:=H
        replace H:(if 1≤(x3_1.length:Int) then (merkle_climb.l0 k1 (wrap64 (Int.tdiv (wrap64 (x0_1+1)) 2)) (wrap64 (Int.tdiv x1_1 2)) t604 (x3_1.drop 1) y601) else (none))=some (r1,r2):=H
        have A20:=Aside0.mk A200
        clear A200
        by_cases c21:1≤(x3_1.length:Int)
        ·
         rw [if_pos c21] at H
         have c21b0:=eq_true c21
         have c21b1:decide (1≤(x3_1.length:Int))=true:=decide_eq_true c21
         clear c21
         obtain ⟨y605,hy605⟩:∃ y_:List ByteArray,y_=(x3_1.drop 1):=⟨_,rfl⟩
         replace H:(merkle_climb.l0 k1 (wrap64 (Int.tdiv (wrap64 (x0_1+1)) 2)) (wrap64 (Int.tdiv x1_1 2)) t604 y605 y601)=some (r1,r2):=by first|(rw [hy605];with_reducible exact H)|(have H2_:=(Option.bind_some _ _).symm.trans H;rw [hy605];with_reducible exact H2_)|(have H2_:=(Option.bind_some _ _).symm.trans H;with_reducible exact H2_)|with_reducible exact H|(rw [hy605];exact H)|exact H
         have Ny605:=Aside0.mk hy605
         clear hy605
         have H':=Aside0.mk H
         clear H
         obtain ⟨Ao22,co22,eo22⟩:=Kd.V_slice HO_3.out
         subst eo22
         have p588:0≤(0:Int):=(by omega)
         have q588:0 < (x3_1.length:Int):=of_decide_eq_true (by first|(with_reducible assumption)|assumption)
         obtain ⟨ad588,e588,hx588_0⟩:=Kd.at_string (Kd.V_reads' HO_3.out).2.2 0 p588 q588
         cases e588
         have qi588:(0 < x3_1.length)=True:=eq_true (by omega)
         (try rw [show ((0:Int)).toNat=0 from rfl] at hx588_0)
         (try rw [Addr.add_zero'] at hx588_0)
         replace p588:=eq_true p588
         replace q588:=eq_true q588
         try go_wp2_with (first|((with_reducible refine gate_callee (f:=96) rfl ?_);refine goesL_ (some 27) rfl rfl Try.func96 (by kernel_rfl) rfl #[.string x2_1,.string (rdOf ByteArray.empty x3_1 0)] rfl (by (try simp only [List.map_toArray,List.map_cons,List.map_nil]);first|done|rfl|(simp only [List.length_drop,List.length_take];rfl)) ?_;(with_reducible refine (merkle_knot.calls x2_1 (rdOf ByteArray.empty x3_1 0) t589 _ A8.out).mono ?_);rintro e w' ⟨rfl,⟨nd,rfl⟩⟩;refine ⟨_,rfl,?_⟩)|((with_reducible refine gate_builtin (b:=.append) (xs:=#[.tmp 36,.tmp 38]) rfl ?_);at_builtin;refine Kd.R_append Kd.string (w0:=w) w.heap.size rfl (.tmp 36) (.tmp 38) 39 9 (.string ⟨#[]⟩) 16 rfl Try.underlying39 info9 rfl (by decide) (by omega) u10 x10_1 t589 [.string t589] (fun k_=>(w.heap.size≤k_)) (fun _=>False) rfl rfl ?aP (fun _ hk=>hk.elim) ?aF ?aO ?aB ?aS ?aL ?_;(case aP=>exact rfl);(case aB=>exact (by repeat (first|(with_reducible first|exact HB.out|apply below_alloc|apply pw_below_drewN|apply below_drew1)|exact HB.out)));(case aF=>exact (fun k_ hk=>(Nat.le_trans (below_size (by repeat (first|(with_reducible first|exact HB.out|apply below_alloc|apply pw_below_drewN|apply below_drew1)|exact HB.out))) hk)));(case aO=>exact (by (with_reducible repeat (first|apply Kd.R_alloc|apply Kd.R_drewN|apply Kd.R_drew));exact HO_10.out));(case aS=>exact (below_size (by repeat (first|(with_reducible first|exact HB.out|apply below_alloc|apply pw_below_drewN|apply below_drew1)|exact HB.out))));(case aL=>have:=LMc19.out;omega);intro v602 w23 ho hb hg hat;rw [← Ny601.out] at ho;have n0_:=Aside0.mk (Kd.V_afterv (ok:=(fun k_=>(P3_ k_∨w.heap.size≤k_))) (by (with_reducible repeat (first|apply Kd.V_alloc|apply Kd.V_drewN|apply Kd.V_drew));exact HO_3.out) hg hat);have n1_:=Aside0.mk (hb);have n2_:=Aside0.mk (ho);clear HO_3;clear HB;clear HO_10;have HO_3:=n0_;have HB:=n1_;have HO603:=n2_;clear n0_ n1_ n2_;clear ho hb hg hat))
         have n0_:=Aside0.mk (Kd.V_drew HO_3.out)
         have n1_:=Aside0.mk (Kd.R_drew HO603.out)
         have n2_:=Aside0.mk (below_drew1 HB.out)
         clear HO_3
         clear HO603
         clear HB
         have HO_3:=n0_
         have HO603:=n1_
         have HB:=n2_
         clear n0_ n1_ n2_
         have q25:(1:Int)≤((x3_1.length:Int):Int):=of_decide_eq_true (by first|(with_reducible assumption)|assumption)
         obtain ⟨i025,hi025,_,hsz25,_⟩:=info_parts info9
         have hroom25:x3_1.length≤co22:=(Kd.V_reads' HO_3.out).2.1
         have hC25:Kd.F Kd.string _ _ (some ad588) x3_1.length x3_1:=(Kd.V_at (base:=w.heap.size) HO_3.out).2.2
         have hcut25:=cut_from (P:=Try.prog) 39 9 .i64 Try.underlying39 hi025 1 hsz25 (some ad588) x3_1.length co22 1 (by omega) q25
         have hr25:=Kd.F_cut (m:=(1:Int).toNat) (c:=co22) hC25 (by omega) hroom25
         obtain ⟨A25,hA25⟩:∃ A1,A1=(if co22=(1:Int).toNat then (some ad588) else ((some ad588):Option Addr).map (·.add ((1:Int).toNat * 1))):=⟨_,rfl⟩
         obtain ⟨c25,hc25⟩:∃ c1,c1=co22 - (1:Int).toNat:=⟨_,rfl⟩
         have hy25:y605.length=x3_1.length - (1:Int).toNat:=(by rw [Ny605.out,List.length_drop] <;> omega)
         rw [show (x3_1).drop (1:Int).toNat=y605 from Ny605.out.symm] at hr25
         replace hr25:Kd.F Kd.string _ _ A25 y605.length y605:=(by rw [hA25];exact hr25)
         rw [← hy25,← hA25,← hc25] at hcut25
         have HO609:=Aside0.mk (show Kd.V Kd.string 9 _ w.heap.size _ (.slice A25 y605.length c25) y605 from Kd.V_mk (by rw [hy25,hc25];exact Nat.sub_le_sub_right hroom25 _) hr25)
         have HC609:=Aside0.mk (show y605.length≤c25 from by rw [hy25,hc25];exact Nat.sub_le_sub_right hroom25 _)
         clear hr25 hC25 hroom25 hi025 hsz25 hc25
         have KY25:=Aside0.mk hy25
         have KA25:=Aside0.mk hA25
         clear hy25 hA25
         replace q25:=eq_true q25
         refine start_ (n:=6) (S:=fun w'=>True) (ds:=[]) #[false,false,false,false,false,false] (by kernel_rfl) rfl rfl trivial (fun hHeld=>?_)
         generalize w23.drew=w24 at HO_3 HO603 HB HO609 hHeld ⊢
         refine pure_ (i:=0) (N:=some 40) (v:=?_) (a':=?_) #[true,false,false,false,false,false] rfl rfl (by kernel_rfl) (fun _ _ _ h=>h) (Or.inl ⟨by rfl,?_⟩) ?_ ?_
         rotate_left
         ·
          intro w'
          go_simp
          with_reducible rfl
         rotate_left
         ·
          simp only [Act.put,List.setIfInBounds_toArray,List.set_cons_zero,List.set_cons_succ,i64_w,i32_w]
          rfl
         refine pure_ (i:=2) (N:=some 42) (v:=?_) (a':=?_) #[true,false,true,false,false,false] rfl rfl (by kernel_rfl) (fun _ _ _ h=>h) (Or.inl ⟨by rfl,?_⟩) ?_ ?_
         rotate_left
         ·
          intro w'
          go_simp
          with_reducible rfl
         rotate_left
         ·
          simp only [Act.put,List.setIfInBounds_toArray,List.set_cons_zero,List.set_cons_succ,i64_w,i32_w]
          rfl
         refine pure_ (i:=3) (N:=some 43) (v:=?_) (a':=?_) #[true,false,true,true,false,false] rfl rfl (by kernel_rfl) (fun _ _ _ h=>h) (Or.inl ⟨by rfl,?_⟩) ?_ ?_
         rotate_left
         ·
          intro w'
          go_simp
          with_reducible rfl
         rotate_left
         ·
          simp only [Act.put,List.setIfInBounds_toArray,List.set_cons_zero,List.set_cons_succ,i64_w,i32_w]
          rfl
         refine one_ (i:=1) (N:=some 41) #[true,true,true,true,false,false] rfl rfl (by kernel_rfl) (by decide) (fun K hK=>?_)
         refine goes_ Try.func26 (by kernel_rfl) rfl #[.string t589] (by rfl) rfl rfl (by (try simp only [List.map_toArray,List.map_cons,List.map_nil]);first|done|rfl|(simp only [List.length_drop,List.length_take];rfl)) ?_
         with_reducible refine (sha_Sum.calls t589 t604 _ A20.out).mono ?_
         rintro e w26 ⟨rfl,hb⟩
         refine ⟨_,rfl,?_⟩
         have n0_:=Aside0.mk (Kd.V_below (by (with_reducible repeat (first|apply Kd.V_alloc|apply Kd.V_drewN|apply Kd.V_drew));exact HO_3.out) hb)
         have n1_:=Aside0.mk (Kd.R_below (by (with_reducible repeat (first|apply Kd.R_alloc|apply Kd.R_drewN|apply Kd.R_drew));exact HO603.out) hb)
         have n2_:=Aside0.mk (Kd.V_below (by (with_reducible repeat (first|apply Kd.V_alloc|apply Kd.V_drewN|apply Kd.V_drew));exact HO609.out) hb)
         have n3_:=Aside0.mk (below_step (by repeat (first|(with_reducible first|exact HB.out|apply below_alloc|apply pw_below_drewN|apply below_drew1)|exact HB.out)) hb)
         clear HO_3
         clear HO603
         clear HO609
         clear HB
         have HO_3:=n0_
         have HO603:=n1_
         have HO609:=n2_
         have HB:=n3_
         clear n0_ n1_ n2_ n3_
         (try clear hb)
         (try clear hb2)
         (try clear hk)
         (try clear hi)
         refine hK.out _ _ trivial (fun hHeld=>?_)
         clear hK K
         refine norm_ (a':=?_) ?_ ?_
         rotate_left
         ·
          show Act.put _ (some 41) _=_
          simp only [Act.put,List.setIfInBounds_toArray,List.set_cons_zero,List.set_cons_succ,i64_w,i32_w]
          rfl
         refine pure_ (i:=4) (N:=some 2) (v:=?_) (a':=?_) #[true,true,true,true,true,false] rfl rfl (by kernel_rfl) (fun _ _ _ h=>h) (Or.inl ⟨by rfl,?_⟩) ?_ ?_
         rotate_left
         ·
          intro w'
          go_simp
          with_reducible rfl
         rotate_left
         ·
          simp only [Act.put,List.setIfInBounds_toArray,List.set_cons_zero,List.set_cons_succ,i64_w,i32_w]
          rfl
         refine pure_ (i:=5) (N:=some 3) (v:=?_) (a':=?_) #[true,true,true,true,true,true] rfl rfl (by kernel_rfl) (fun _ _ _ h=>h) (Or.inl ⟨by rfl,?_⟩) ?_ ?_
         rotate_left
         ·
          intro w'
          go_simp
          with_reducible rfl
         rotate_left
         ·
          simp only [Act.put,List.setIfInBounds_toArray,List.set_cons_zero,List.set_cons_succ,i64_w,i32_w]
          rfl
         refine done_ (by kernel_rfl) ?_
         try go_wp2
         go_roundg k1
         case measure=>have:=HK1.out;omega
         case rel=>exact ⟨(wrap64 (Int.tdiv (wrap64 (x0_1+1)) 2)),(wrap64 (Int.tdiv x1_1 2)),(t604),(y605),(y601),(by first|rfl|(simp;done)|(simp [*];done)),(by first|rfl|(simp;done)|(simp [*];done)),(by first|rfl|(simp;done)|(simp [*];done)),H',⟨by have:=HK1.out;omega⟩,⟨by (with_reducible repeat (first|apply Kd.V_alloc|apply Kd.V_drewN|apply Kd.V_drew));exact HO609.out⟩,⟨by (with_reducible repeat (first|apply Kd.R_alloc|apply Kd.R_drewN|apply Kd.R_drew));exact HO603.out⟩,⟨by repeat (first|(with_reducible first|exact HB.out|apply below_alloc|apply pw_below_drewN|apply below_drew1)|exact HB.out)⟩⟩
        ·
         rw [if_neg c21] at H
         exact absurd H (by simp)
       ·
        rw [if_neg c19] at H
        exact absurd H (by simp)
     ·
      rw [if_neg c7] at H
      exact absurd H (by simp)
   ·
    rw [if_neg c5] at H
    have c5b0:decide (1 < x0_1)=false:=decide_eq_false c5
    clear c5
    simp only [Option.some.injEq,Prod.mk.injEq] at H
    obtain ⟨rfl,rfl⟩:=H
    go_wp2
    go_ret2
    exact ⟨_,by first|rfl|(simp [errW_none,errW_some] <;> rfl)|(simp [*,errW_none,errW_some] <;> rfl),by (with_reducible repeat (first|apply Kd.R_alloc|apply Kd.R_drewN|apply Kd.R_drew));exact HO_10.out,by repeat (first|(with_reducible first|exact HB.out|apply below_alloc|apply pw_below_drewN|apply below_drew1)|exact HB.out)⟩
end Go.Proofs.Ytelcaepenfjloaa.Print
/-! #### Pr111 -/
namespace Go.Proofs.Ytelcaepenfjloaa.Print
open Go.RowKit Go.Proofs.YtelcaepenfjloaaW.PrintWords Go.Proofs.YtelcaepenfjloaaW.PrintLast Go.Proofs.YtelcaepenfjloaaW.PrintMore
attribute [local go_sem] max2_int min2_int max_two min_two max_three min_three max_four min_four
set_option linter.unusedVariables false
set_option linter.unusedSimpArgs false
/-! ### mosaicref03_folds: function 111 -/
mutual
def mosaicref03_folds.j0:Nat→Int→Int→List ByteArray→Bool→Option (Int)
 | 0,_,_,_,_=>none
 | k+1,x0,x1,x3,x18=>if x18=true then (some 1) else ((mosaicref03_Depth.f k x0 x1).bind fun t616=>(if (x3.length:Int)=t616 then (mosaicref03_folds.l0 k x3 0) else (some 3)))
def mosaicref03_folds.l0:Nat→List ByteArray→Int→Option (Int)
 | 0,_,_=>none
 | k+1,x3,x9=>if x9 < (x3.length:Int) then (if 0≤x9 then (if ((rdOf ByteArray.empty x3 x9).size:Int)=32 then (mosaicref03_folds.l0 k x3 (wrap64 (x9+1))) else (some 3)) else (none)) else (some 0)
end
def mosaicref03_folds.f (k:Nat) (a0:Int) (a1:Int) (a2:ByteArray) (l3:List ByteArray):Option (Int):=(mosaicref03_Depth.f k a0 a1).bind fun t615=>(if t615 < 0 then (mosaicref03_folds.j0 k a0 a1 l3 true) else (mosaicref03_folds.j0 k a0 a1 l3 ((a2.size:Int) != 32)))
theorem mosaicref03_folds.mono_l:∀ k,(∀ y0 y1 y2 y3,LeO (mosaicref03_folds.j0 k y0 y1 y2 y3) (mosaicref03_folds.j0 (k+1) y0 y1 y2 y3))∧(∀ y0 y1,LeO (mosaicref03_folds.l0 k y0 y1) (mosaicref03_folds.l0 (k+1) y0 y1))
 | 0=>⟨fun _ _ _ _ r h=>by simp [mosaicref03_folds.j0] at h,fun _ _ r h=>by simp [mosaicref03_folds.l0] at h⟩
 | k+1=>by
  obtain ⟨ih0,ih1⟩:=mosaicref03_folds.mono_l k
  refine ⟨?_,?_⟩
  ·
   intro y0 y1 y2 y3
   unfold mosaicref03_folds.j0
   repeat' first
   | (with_reducible exact ih0 _ _ _ _)
   | (with_reducible exact ih1 _ _)
   | (with_reducible exact mosaicref03_Depth.mono _ _ _)
   | (with_reducible exact LeO.refl _)
   | (with_reducible exact LeO.none _)
   | (with_reducible refine LeO.ite ?_ ?_)
   | (with_reducible refine LeO.bind ?_ (fun _=>?_))
   | exact ih0 _ _ _ _
   | exact ih1 _ _
   | exact mosaicref03_Depth.mono _ _ _
   | exact LeO.none _
   | refine LeO.ite ?_ ?_
   | refine LeO.bind ?_ (fun _=>?_)
  ·
   intro y0 y1
   unfold mosaicref03_folds.l0
   repeat' first
   | (with_reducible exact ih0 _ _ _ _)
   | (with_reducible exact ih1 _ _)
   | (with_reducible exact mosaicref03_Depth.mono _ _ _)
   | (with_reducible exact LeO.refl _)
   | (with_reducible exact LeO.none _)
   | (with_reducible refine LeO.ite ?_ ?_)
   | (with_reducible refine LeO.bind ?_ (fun _=>?_))
   | exact ih0 _ _ _ _
   | exact ih1 _ _
   | exact mosaicref03_Depth.mono _ _ _
   | exact LeO.none _
   | refine LeO.ite ?_ ?_
   | refine LeO.bind ?_ (fun _=>?_)
theorem mosaicref03_folds.mono:∀ a0 a1 a2 a3 k,LeO (mosaicref03_folds.f k a0 a1 a2 a3) (mosaicref03_folds.f (k+1) a0 a1 a2 a3):=by
 intro a0 a1 a2 a3 k
 obtain ⟨ih0,ih1⟩:=mosaicref03_folds.mono_l k
 unfold mosaicref03_folds.f
 repeat' first
   | (with_reducible exact ih0 _ _ _ _)
   | (with_reducible exact ih1 _ _)
   | (with_reducible exact mosaicref03_Depth.mono _ _ _)
   | (with_reducible exact LeO.refl _)
   | (with_reducible exact LeO.none _)
   | (with_reducible refine LeO.ite ?_ ?_)
   | (with_reducible refine LeO.bind ?_ (fun _=>?_))
   | exact ih0 _ _ _ _
   | exact ih1 _ _
   | exact mosaicref03_Depth.mono _ _ _
   | exact LeO.none _
   | refine LeO.ite ?_ ?_
   | refine LeO.bind ?_ (fun _=>?_)
set_option maxHeartbeats 8000000 in
set_option maxRecDepth 100000 in
theorem mosaicref03_folds.calls (k:Nat) (a0:Int) (a1:Int) (a2:ByteArray) (A3:Option Addr) (c3:Nat) (l3:List ByteArray) (r:Int) (w:World) (hr3:Kd.C Kd.string w A3 l3.length l3) (hc3:l3.length≤c3) (h:mosaicref03_folds.f k a0 a1 a2 l3=some r) :
  Calls Try.prog 111 #[.int .i64 a0,.int .i64 a1,.string a2,.slice A3 l3.length c3] w fun e w'=>e=.returned (.int .i64 r)∧Drawn0 w w':=by
 have HR3:=Aside0.mk hr3
 have HC3:=Aside0.mk hc3
 clear hr3 hc3
 have H:((mosaicref03_Depth.f k a0 a1).bind fun t615=>(if t615 < 0 then (mosaicref03_folds.j0 k a0 a1 l3 true) else (mosaicref03_folds.j0 k a0 a1 l3 ((a2.size:Int) != 32))))=some r:=h
 clear h
 have HC5:=Aside0.mk H
 clear H
 go_enter Try.func111,Try.ntmps111
 go_upto_region 1 with (fail)
 go_cut [18] (fun v18 wc=>∃ (kq:Nat) (x18_4:Bool),v18=.bool x18_4∧Aside0 (mosaicref03_folds.j0 kq a0 a1 l3 x18_4=some r)∧Aside0 (kq≤k)∧Drawn0 w wc)
 case first =>
  have H:=HC5.out
  clear HC5
  replace H:=Option.bind_eq_some_iff.mp H
  obtain ⟨t615,A60,H⟩:=H
  replace H:(if t615 < 0 then (mosaicref03_folds.j0 k a0 a1 l3 true) else (mosaicref03_folds.j0 k a0 a1 l3 ((a2.size:Int) != 32)))=some r:=H
  have A6:=Aside0.mk A60
  clear A60
  by_cases c7:t615 < 0
  ·
   rw [if_pos c7] at H
   have c7b0:decide (t615 < 0)=true:=decide_eq_true c7
   clear c7
   (first|rw [c7b0]|(simp only [i64_w,i32_w];rw [c7b0])|skip)
   have H':=Aside0.mk H
   clear H
   go_wp2_with (first|((with_reducible refine gate_callee (f:=56) rfl ?_);refine goesL_ (some 12) rfl rfl Try.func56 (by kernel_rfl) rfl #[.int .i64 a0,.int .i64 a1] rfl (by (try simp only [List.map_toArray,List.map_cons,List.map_nil]);first|done|rfl|(simp only [List.length_drop,List.length_take];rfl)) ?_;(with_reducible refine (mosaicref03_Depth.calls k a0 a1 t615 _ A6.out).mono ?_);rintro e w' ⟨rfl,⟨nd,rfl⟩⟩;refine ⟨_,rfl,?_⟩))
   go_meet
   case rel=>exact ⟨_,(true),(by first|rfl|(simp;done)|(simp [*];done)),H',⟨by first|omega|exact Nat.le_refl _⟩,by repeat (first|exact Drawn0.refl _|apply Drawn0.step)⟩
  ·
   rw [if_neg c7] at H
   have c7b0:decide (t615 < 0)=false:=decide_eq_false c7
   clear c7
   (first|rw [c7b0]|(simp only [i64_w,i32_w];rw [c7b0])|skip)
   have H':=Aside0.mk H
   clear H
   go_wp2_with (first|((with_reducible refine gate_callee (f:=56) rfl ?_);refine goesL_ (some 12) rfl rfl Try.func56 (by kernel_rfl) rfl #[.int .i64 a0,.int .i64 a1] rfl (by (try simp only [List.map_toArray,List.map_cons,List.map_nil]);first|done|rfl|(simp only [List.length_drop,List.length_take];rfl)) ?_;(with_reducible refine (mosaicref03_Depth.calls k a0 a1 t615 _ A6.out).mono ?_);rintro e w' ⟨rfl,⟨nd,rfl⟩⟩;refine ⟨_,rfl,?_⟩))
   go_meet
   case rel=>exact ⟨_,(((a2.size:Int) != 32)),(by first|rfl|(simp;done)|(simp [*];done)),H',⟨by first|omega|exact Nat.le_refl _⟩,by repeat (first|exact Drawn0.refl _|apply Drawn0.step)⟩
 case rest =>
  clear HC5
  try clear c1
  try clear p2
  try clear c3
  try clear c5
  try clear c7
  try clear c7b0
  obtain ⟨kq,x18_4,rfl,HA,HJ4,⟨mc4,rfl⟩⟩:=hcut
  cases kq with
  | zero=>exact absurd HA.out (by simp [mosaicref03_folds.j0])
  | succ kj4 =>
   have H:=HA.out
   clear HA
   simp only [mosaicref03_folds.j0] at H
   by_cases c8:x18_4=true
   ·
    subst c8
    have H1:(some 1)=some r:=by rw [if_pos rfl] at H;exact H
    clear H
    have H:=H1
    clear H1
    obtain rfl:=Option.some.inj H
    go_wp2
    go_ret
    exact ⟨by first|rfl|(simp;done)|(simp [*];done),by repeat (first|exact Drawn0.refl _|apply Drawn0.step)⟩
   ·
    replace c8:=Bool.eq_false_iff.mpr c8
    subst c8
    have H1:((mosaicref03_Depth.f kj4 a0 a1).bind fun t616=>(if (l3.length:Int)=t616 then (mosaicref03_folds.l0 kj4 l3 0) else (some 3)))=some r:=by rw [if_neg (show ¬ (false=true) by decide)] at H;exact H
    clear H
    have H:=H1
    clear H1
    replace H:=Option.bind_eq_some_iff.mp H
    obtain ⟨t616,A90,H⟩:=H
    replace H:(if (l3.length:Int)=t616 then (mosaicref03_folds.l0 kj4 l3 0) else (some 3))=some r:=H
    have A9:=Aside0.mk A90
    clear A90
    by_cases c10:(l3.length:Int)=t616
    ·
     rw [if_pos c10] at H
     have c10b0:((l3.length:Int) == t616)=true:=beq_iff_eq.mpr c10
     have c10b1:((l3.length:Int) != t616)=false:=bne_eq_false_iff_eq.mpr c10
     clear c10
     have H':=Aside0.mk H
     clear H
     go_wp2_with (first|((with_reducible refine gate_callee (f:=56) rfl ?_);refine goesL_ (some 23) rfl rfl Try.func56 (by kernel_rfl) rfl #[.int .i64 a0,.int .i64 a1] rfl (by (try simp only [List.map_toArray,List.map_cons,List.map_nil]);first|done|rfl|(simp only [List.length_drop,List.length_take];rfl)) ?_;(with_reducible refine (mosaicref03_Depth.calls kj4 a0 a1 t616 _ A9.out).mono ?_);rintro e w' ⟨rfl,⟨nd,rfl⟩⟩;refine ⟨_,rfl,?_⟩))
     go_loopg [9] kj4 (fun kq v9 w'=>∃ (x9_2:Int),v9=.int .i64 x9_2∧Aside0 (mosaicref03_folds.l0 kq l3 x9_2=some r)∧Aside0 (kq≤kj4)∧Drawn0 w w')
     case atStart=>exact ⟨(0),(by first|rfl|(simp;done)|(simp [*];done)),H',⟨Nat.le_refl _⟩,by repeat (first|exact Drawn0.refl _|apply Drawn0.step)⟩
     case round =>
      clear H'
      try clear c1
      try clear p2
      try clear c3
      try clear c4
      try clear c5
      try clear c7
      try clear c7b0
      try clear c8
      try clear c10
      try clear c10b0
      try clear c10b1
      try clear p2
      obtain ⟨x9_2,rfl,HA,HK2,⟨m2,rfl⟩⟩:=hrel
      cases gk with
      | zero=>exact absurd HA.out (by simp [mosaicref03_folds.l0])
      | succ k2 =>
       have H:=HA.out
       clear HA
       simp only [mosaicref03_folds.l0] at H
       by_cases c11:x9_2 < (l3.length:Int)
       ·
        rw [if_pos c11] at H
        have c11b0:decide (x9_2 < (l3.length:Int))=true:=decide_eq_true c11
        clear c11
        by_cases c12:0≤x9_2
        ·
         rw [if_pos c12] at H
         have c12b0:decide (0≤x9_2)=true:=decide_eq_true c12
         clear c12
         by_cases c13:((rdOf ByteArray.empty l3 x9_2).size:Int)=32
         ·
          rw [if_pos c13] at H
          have c13b0:(((rdOf ByteArray.empty l3 x9_2).size:Int) == 32)=true:=beq_iff_eq.mpr c13
          have c13b1:(((rdOf ByteArray.empty l3 x9_2).size:Int) != 32)=false:=bne_eq_false_iff_eq.mpr c13
          clear c13
          have H':=Aside0.mk H
          clear H
          have p617:0≤(x9_2:Int):=of_decide_eq_true (by first|(with_reducible assumption)|assumption)
          have q617:x9_2 < (l3.length:Int):=of_decide_eq_true (by first|(with_reducible assumption)|assumption)
          obtain ⟨ad617,e617,hx617_0⟩:=Kd.at_string HR3.out x9_2 p617 q617
          cases e617
          replace p617:=eq_true p617
          replace q617:=eq_true q617
          go_wp2
          go_roundg k2
          case measure=>have:=HJ4.out;have:=HK2.out;omega
          case rel=>exact ⟨(wrap64 (x9_2+1)),(by first|rfl|(simp;done)|(simp [*];done)),H',⟨by have:=HJ4.out;have:=HK2.out;omega⟩,by repeat (first|exact Drawn0.refl _|apply Drawn0.step)⟩
         ·
          rw [if_neg c13] at H
          have c13b0:(((rdOf ByteArray.empty l3 x9_2).size:Int) == 32)=false:=beq_eq_false_iff_ne.mpr c13
          have c13b1:(((rdOf ByteArray.empty l3 x9_2).size:Int) != 32)=true:=bne_iff_ne.mpr c13
          obtain rfl:=Option.some.inj H
          have p617:0≤(x9_2:Int):=of_decide_eq_true (by first|(with_reducible assumption)|assumption)
          have q617:x9_2 < (l3.length:Int):=of_decide_eq_true (by first|(with_reducible assumption)|assumption)
          obtain ⟨ad617,e617,hx617_0⟩:=Kd.at_string HR3.out x9_2 p617 q617
          cases e617
          replace p617:=eq_true p617
          replace q617:=eq_true q617
          go_wp2
          go_ret
          exact ⟨by first|rfl|(simp;done)|(simp [*];done),by repeat (first|exact Drawn0.refl _|apply Drawn0.step)⟩
        ·
         rw [if_neg c12] at H
         exact absurd H (by simp)
       ·
        rw [if_neg c11] at H
        have c11b0:decide (x9_2 < (l3.length:Int))=false:=decide_eq_false c11
        clear c11
        obtain rfl:=Option.some.inj H
        go_wp2
        go_ret
        exact ⟨by first|rfl|(simp;done)|(simp [*];done),by repeat (first|exact Drawn0.refl _|apply Drawn0.step)⟩
    ·
     rw [if_neg c10] at H
     have c10b0:((l3.length:Int) == t616)=false:=beq_eq_false_iff_ne.mpr c10
     have c10b1:((l3.length:Int) != t616)=true:=bne_iff_ne.mpr c10
     obtain rfl:=Option.some.inj H
     go_wp2_with (first|((with_reducible refine gate_callee (f:=56) rfl ?_);refine goesL_ (some 23) rfl rfl Try.func56 (by kernel_rfl) rfl #[.int .i64 a0,.int .i64 a1] rfl (by (try simp only [List.map_toArray,List.map_cons,List.map_nil]);first|done|rfl|(simp only [List.length_drop,List.length_take];rfl)) ?_;(with_reducible refine (mosaicref03_Depth.calls kj4 a0 a1 t616 _ A9.out).mono ?_);rintro e w' ⟨rfl,⟨nd,rfl⟩⟩;refine ⟨_,rfl,?_⟩))
     go_ret
     exact ⟨by first|rfl|(simp;done)|(simp [*];done),by repeat (first|exact Drawn0.refl _|apply Drawn0.step)⟩
end Go.Proofs.Ytelcaepenfjloaa.Print
/-! #### Pr112 -/
namespace Go.Proofs.Ytelcaepenfjloaa.Print
open Go.RowKit Go.Proofs.YtelcaepenfjloaaW.PrintWords Go.Proofs.YtelcaepenfjloaaW.PrintLast Go.Proofs.YtelcaepenfjloaaW.PrintMore
attribute [local go_sem] max2_int min2_int max_two min_two max_three min_three max_four min_four
set_option linter.unusedVariables false
set_option linter.unusedSimpArgs false
/-! ### mosaicref03_climb: function 112 -/
def mosaicref03_climb.f:Nat→Int→Int→ByteArray→List ByteArray→Option (ByteArray×List ByteArray)
 | 0,_,_,_,_=>none
 | k+1,a0,a1,a2,l3=>if (l3.length:Int)=0 then (some (a2,([]:List ByteArray))) else ((mosaicref03_half.f k a0).bind fun t619=>(if 0≤(wrap64 ((l3.length:Int) - 1)) then (if (wrap64 ((l3.length:Int) - 1)) < (l3.length:Int) then (if (wrap64 ((l3.length:Int) - 1))≤(l3.length:Int) then (if a1 < t619 then ((mosaicref03_climb.f k t619 a1 a2 (l3.take ((wrap64 ((l3.length:Int) - 1)):Int).toNat)).bind fun bt622=>((mosaicref03_KnotText.f bt622.1 (rdOf ByteArray.empty l3 (wrap64 ((l3.length:Int) - 1)))).bind fun t627=>(if bt622.2.length < 8796093022208 then ((mosaicref01_Sum.f k t627).bind fun t631=>(some (t631,(bt622.2 ++ [t627])))) else (none)))) else ((mosaicref03_climb.f k (wrap64 (a0 - t619)) (wrap64 (a1 - t619)) a2 (l3.take ((wrap64 ((l3.length:Int) - 1)):Int).toNat)).bind fun bt632=>((mosaicref03_KnotText.f (rdOf ByteArray.empty l3 (wrap64 ((l3.length:Int) - 1))) bt632.1).bind fun t637=>(if bt632.2.length < 8796093022208 then ((mosaicref01_Sum.f k t637).bind fun t641=>(some (t641,(bt632.2 ++ [t637])))) else (none))))) else (none)) else (none)) else (none)))
theorem mosaicref03_climb.mono_l:∀ k,(∀ y0 y1 y2 y3,LeO (mosaicref03_climb.f k y0 y1 y2 y3) (mosaicref03_climb.f (k+1) y0 y1 y2 y3))
 | 0=>fun _ _ _ _ r h=>by simp [mosaicref03_climb.f] at h
 | k+1=>by
  have ih0:=mosaicref03_climb.mono_l k
  ·
   intro y0 y1 y2 y3
   unfold mosaicref03_climb.f
   repeat' first
   | (with_reducible exact ih0 _ _ _ _)
   | (with_reducible exact mosaicref01_Sum.mono _ _)
   | (with_reducible exact mosaicref03_half.mono _ _)
   | (with_reducible exact LeO.refl _)
   | (with_reducible exact LeO.none _)
   | (with_reducible refine LeO.ite ?_ ?_)
   | (with_reducible refine LeO.bind ?_ (fun _=>?_))
   | exact ih0 _ _ _ _
   | exact mosaicref01_Sum.mono _ _
   | exact mosaicref03_half.mono _ _
   | exact LeO.none _
   | refine LeO.ite ?_ ?_
   | refine LeO.bind ?_ (fun _=>?_)
theorem mosaicref03_climb.mono:∀ a0 a1 a2 a3 k,LeO (mosaicref03_climb.f k a0 a1 a2 a3) (mosaicref03_climb.f (k+1) a0 a1 a2 a3):=by
 intro a0 a1 a2 a3 k
 have ih0:=mosaicref03_climb.mono_l k
 exact ih0 a0 a1 a2 a3
set_option maxHeartbeats 8000000 in
set_option maxRecDepth 100000 in
theorem mosaicref03_climb.calls (k:Nat):∀ (a0:Int) (a1:Int) (a2:ByteArray) (A3:Option Addr) (c3:Nat) (l3:List ByteArray) (r1:ByteArray) (r2:List ByteArray) (w:World) (hr3:Kd.C Kd.string w A3 l3.length l3) (hc3:l3.length≤c3) (h:mosaicref03_climb.f k a0 a1 a2 l3=some (r1,r2)),
  Calls Try.prog 112 #[.int .i64 a0,.int .i64 a1,.string a2,.slice A3 l3.length c3] w fun e w'=>∃ v1_:Value,e=.returned (.agg #[.string r1,v1_])∧Kd.R Kd.string 9 w' w.heap.size (fun _=>True) v1_ r2∧Below w.heap.size w w':=by
 induction k using Nat.strongRecOn with
 | _ k ih =>
 intro a0 a1 a2 A3 c3 l3 r1 r2 w hr3 hc3 h
 cases k with
 | zero=>exact absurd h (by simp [mosaicref03_climb.f])
 | succ k =>
 simp only [mosaicref03_climb.f] at h
 have hu142:=Try.underlying142
 have HR3:=Aside0.mk hr3
 have HC3:=Aside0.mk hc3
 clear hr3 hc3
 have HB:=Aside0.mk (Below.refl w.heap.size w)
 have H:(if (l3.length:Int)=0 then (some (a2,([]:List ByteArray))) else ((mosaicref03_half.f k a0).bind fun t619=>(if 0≤(wrap64 ((l3.length:Int) - 1)) then (if (wrap64 ((l3.length:Int) - 1)) < (l3.length:Int) then (if (wrap64 ((l3.length:Int) - 1))≤(l3.length:Int) then (if a1 < t619 then ((mosaicref03_climb.f k t619 a1 a2 (l3.take ((wrap64 ((l3.length:Int) - 1)):Int).toNat)).bind fun bt622=>((mosaicref03_KnotText.f bt622.1 (rdOf ByteArray.empty l3 (wrap64 ((l3.length:Int) - 1)))).bind fun t627=>(if bt622.2.length < 8796093022208 then ((mosaicref01_Sum.f k t627).bind fun t631=>(some (t631,(bt622.2 ++ [t627])))) else (none)))) else ((mosaicref03_climb.f k (wrap64 (a0 - t619)) (wrap64 (a1 - t619)) a2 (l3.take ((wrap64 ((l3.length:Int) - 1)):Int).toNat)).bind fun bt632=>((mosaicref03_KnotText.f (rdOf ByteArray.empty l3 (wrap64 ((l3.length:Int) - 1))) bt632.1).bind fun t637=>(if bt632.2.length < 8796093022208 then ((mosaicref01_Sum.f k t637).bind fun t641=>(some (t641,(bt632.2 ++ [t637])))) else (none))))) else (none)) else (none)) else (none))))=some (r1,r2):=h
 clear h
 by_cases c5:(l3.length:Int)=0
 ·
  rw [if_pos c5] at H
  have c5b0:((l3.length:Int) == 0)=true:=beq_iff_eq.mpr c5
  have c5b1:((l3.length:Int) != 0)=false:=bne_eq_false_iff_eq.mpr c5
  clear c5
  simp only [Option.some.injEq,Prod.mk.injEq] at H
  obtain ⟨rfl,rfl⟩:=H
  go_enter Try.func112,Try.ntmps112
  go_wp2_with (first|((with_reducible refine gate_dst (N:=8) rfl ?_);refine box_event ?hg (N:=8) ?hd (cs:=#[.string (⟨#[]⟩:ByteArray),.slice none 0 0]) (t:=142) ?hr ?_;(case hd=>rfl);(case hg=>rfl);(case hr=>first|(go_simp;done)|(go_simp;rfl));intro gb618 hg w6 hbox hb;have n0_:=Aside0.mk (below_step (by repeat (first|(with_reducible first|exact HB.out|apply below_alloc|apply pw_below_drewN|apply below_drew1)|exact HB.out)) hb);have n1_:=Aside0.mk (hbox);have n2_:=Aside0.mk ((by rw [hg];exact (below_size (by repeat (first|(with_reducible first|exact HB.out|apply below_alloc|apply pw_below_drewN|apply below_drew1)|exact HB.out))):w.heap.size≤gb618));have n3_:=Aside0.mk ((by rw [hg];exact (below_size (by repeat (first|(with_reducible first|exact HB.out|apply below_alloc|apply pw_below_drewN|apply below_drew1)|exact HB.out))):w.heap.size≤gb618));clear HB;have HB:=n0_;have BK618:=n1_;have GW618:=n2_;have GE618:=n3_;clear n0_ n1_ n2_ n3_;clear hb hbox hg;have hcz7_0:w6.cell? ⟨gb618,0,none⟩=some (.string (⟨#[]⟩:ByteArray)):=(blk_cell BK618.out 0).trans rfl;have hcz7_1:w6.cell? ⟨gb618,1,none⟩=some (.slice none 0 0):=(blk_cell BK618.out 1).trans rfl;have hfz7_0:=blk_frozen BK618.out 0;have hfz7_1:=blk_frozen BK618.out 1))
  refine bodyPost_ret (results_cell_row rfl _ _ gb618 142 #[.string a2,.slice none 0 0] (0,0) _ rfl (by (with_reducible repeat (first|refine blk_drewN ?_ _|refine blk_drew ?_|refine blk_alloc ?_ _));refine blk_put (cs:=#[.string a2,.slice none 0 0]) ?_ 1 _ rfl;(with_reducible repeat (first|refine blk_drewN ?_ _|refine blk_drew ?_|refine blk_alloc ?_ _));refine blk_put (cs:=#[.string (⟨#[]⟩:ByteArray),.slice none 0 0]) ?_ 0 _ rfl;(with_reducible repeat (first|refine blk_drewN ?_ _|refine blk_drew ?_|refine blk_alloc ?_ _));exact BK618.out) Try.underlying142 rfl (by kernel_rfl)) rfl ?_
  exact ⟨_,by first|rfl|(simp [errW_none,errW_some] <;> rfl)|(simp [*,errW_none,errW_some] <;> rfl),by first|exact Kd.R_nil _ _ _ _ _|exact Kd.N_nil _ _ _ _ _|exact Kd.V_nil _ _ _ _ _|exact Kd.Q_nil _ _ _ _ _|exact Kd.S_nil _ _ _ _ _,by repeat (first|(with_reducible first|exact HB.out|apply below_alloc|apply pw_below_drewN|apply below_drew1|refine below_set ?_ GE618.out)|exact HB.out)⟩
 ·
  rw [if_neg c5] at H
  have c5b0:((l3.length:Int) == 0)=false:=beq_eq_false_iff_ne.mpr c5
  have c5b1:((l3.length:Int) != 0)=true:=bne_iff_ne.mpr c5
  have c5b2:¬ (l3=[]):=fun h_=>c5 (by rw [h_];rfl)
  replace H:=Option.bind_eq_some_iff.mp H
  obtain ⟨t619,A80,H⟩:=H
  replace H:(if 0≤(wrap64 ((l3.length:Int) - 1)) then (if (wrap64 ((l3.length:Int) - 1)) < (l3.length:Int) then (if (wrap64 ((l3.length:Int) - 1))≤(l3.length:Int) then (if a1 < t619 then ((mosaicref03_climb.f k t619 a1 a2 (l3.take ((wrap64 ((l3.length:Int) - 1)):Int).toNat)).bind fun bt622=>((mosaicref03_KnotText.f bt622.1 (rdOf ByteArray.empty l3 (wrap64 ((l3.length:Int) - 1)))).bind fun t627=>(if bt622.2.length < 8796093022208 then ((mosaicref01_Sum.f k t627).bind fun t631=>(some (t631,(bt622.2 ++ [t627])))) else (none)))) else ((mosaicref03_climb.f k (wrap64 (a0 - t619)) (wrap64 (a1 - t619)) a2 (l3.take ((wrap64 ((l3.length:Int) - 1)):Int).toNat)).bind fun bt632=>((mosaicref03_KnotText.f (rdOf ByteArray.empty l3 (wrap64 ((l3.length:Int) - 1))) bt632.1).bind fun t637=>(if bt632.2.length < 8796093022208 then ((mosaicref01_Sum.f k t637).bind fun t641=>(some (t641,(bt632.2 ++ [t637])))) else (none))))) else (none)) else (none)) else (none))=some (r1,r2):=H
  have A8:=Aside0.mk A80
  clear A80
  obtain ⟨ji9,hji9⟩:∃ j_:Int,(wrap64 ((l3.length:Int) - 1))=j_:=⟨_,rfl⟩
  replace H:(if 0≤(ji9) then (if (ji9) < (l3.length:Int) then (if (ji9)≤(l3.length:Int) then (if a1 < t619 then ((mosaicref03_climb.f k t619 a1 a2 (l3.take ((ji9):Int).toNat)).bind fun bt622=>((mosaicref03_KnotText.f bt622.1 (rdOf ByteArray.empty l3 (ji9))).bind fun t627=>(if bt622.2.length < 8796093022208 then ((mosaicref01_Sum.f k t627).bind fun t631=>(some (t631,(bt622.2 ++ [t627])))) else (none)))) else ((mosaicref03_climb.f k (wrap64 (a0 - t619)) (wrap64 (a1 - t619)) a2 (l3.take ((ji9):Int).toNat)).bind fun bt632=>((mosaicref03_KnotText.f (rdOf ByteArray.empty l3 (ji9)) bt632.1).bind fun t637=>(if bt632.2.length < 8796093022208 then ((mosaicref01_Sum.f k t637).bind fun t641=>(some (t641,(bt632.2 ++ [t637])))) else (none))))) else (none)) else (none)) else (none))=some (r1,r2):=by first|(rw [hji9] at H;exact H)|(simp only [hji9] at H ⊢;exact H)
  (try rw [hji9] at A8)
  have hji9w:(IntKind.i64.wrap ((l3.length:Int) - 1))=ji9:=(i64_w _).trans hji9
  by_cases c10:0≤(ji9)
  ·
   rw [if_pos c10] at H
   have c10b0:decide (0≤(ji9))=true:=decide_eq_true c10
   clear c10
   by_cases c11:(ji9) < (l3.length:Int)
   ·
    rw [if_pos c11] at H
    have c11b0:decide ((ji9) < (l3.length:Int))=true:=decide_eq_true c11
    clear c11
    have c12b0:=eq_true (of_decide_eq_true (by first|(with_reducible assumption)|assumption):0≤(ji9))
    by_cases c13:(ji9)≤(l3.length:Int)
    ·
     rw [if_pos c13] at H
     have c13b0:=eq_true c13
     have c13b1:decide ((ji9)≤(l3.length:Int))=true:=decide_eq_true c13
     clear c13
     by_cases c14:a1 < t619
     ·
      rw [if_pos c14] at H
      have c14b0:decide (a1 < t619)=true:=decide_eq_true c14
      clear c14
      replace H:=Option.bind_eq_some_iff.mp H
      obtain ⟨⟨t622,t623⟩,A150,H⟩:=H
      replace H:((mosaicref03_KnotText.f t622 (rdOf ByteArray.empty l3 (ji9))).bind fun t627=>(if t623.length < 8796093022208 then ((mosaicref01_Sum.f k t627).bind fun t631=>(some (t631,(t623 ++ [t627])))) else (none)))=some (r1,r2):=H
      have A15:=Aside0.mk A150
      clear A150
      replace H:=Option.bind_eq_some_iff.mp H
      obtain ⟨t627,A160,H⟩:=H
      replace H:(if t623.length < 8796093022208 then ((mosaicref01_Sum.f k t627).bind fun t631=>(some (t631,(t623 ++ [t627])))) else (none))=some (r1,r2):=H
      have A16:=Aside0.mk A160
      clear A160
      by_cases c17:t623.length < 8796093022208
      ·
       rw [if_pos c17] at H
       have LMc17:=Aside0.mk c17
       clear c17
       obtain ⟨y628,hy628⟩:∃ y_:List ByteArray,y_=(t623 ++ [t627]):=⟨_,rfl⟩
       replace H:((mosaicref01_Sum.f k t627).bind fun t631=>(some (t631,y628)))=some (r1,r2):=by first|(rw [hy628];with_reducible exact H)|(have H2_:=(Option.bind_some _ _).symm.trans H;rw [hy628];with_reducible exact H2_)|(have H2_:=(Option.bind_some _ _).symm.trans H;with_reducible exact H2_)|with_reducible exact H|(rw [hy628];exact H)|exact H
       have Ny628:=Aside0.mk hy628
       clear hy628
       replace H:=Option.bind_eq_some_iff.mp H
       obtain ⟨t631,A180,H⟩:=H
       replace H:(some (t631,y628))=some (r1,r2):=H
       have A18:=Aside0.mk A180
       clear A180
       simp only [Option.some.injEq,Prod.mk.injEq] at H
       obtain ⟨rfl,rfl⟩:=H
       go_enter Try.func112,Try.ntmps112
       go_wp2_with (first|((with_reducible refine gate_dst (N:=8) rfl ?_);refine box_event ?hg (N:=8) ?hd (cs:=#[.string (⟨#[]⟩:ByteArray),.slice none 0 0]) (t:=142) ?hr ?_;(case hd=>rfl);(case hg=>rfl);(case hr=>first|(go_simp;done)|(go_simp;rfl));intro gb618 hg w19 hbox hb;have n0_:=Aside0.mk (below_step (by repeat (first|(with_reducible first|exact HB.out|apply below_alloc|apply pw_below_drewN|apply below_drew1)|exact HB.out)) hb);have n1_:=Aside0.mk (hbox);have n2_:=Aside0.mk ((by rw [hg];exact (below_size (by repeat (first|(with_reducible first|exact HB.out|apply below_alloc|apply pw_below_drewN|apply below_drew1)|exact HB.out))):w.heap.size≤gb618));have n3_:=Aside0.mk ((by rw [hg];exact (below_size (by repeat (first|(with_reducible first|exact HB.out|apply below_alloc|apply pw_below_drewN|apply below_drew1)|exact HB.out))):w.heap.size≤gb618));clear HB;have HB:=n0_;have BK618:=n1_;have GW618:=n2_;have GE618:=n3_;clear n0_ n1_ n2_ n3_;clear hb hbox hg)|((with_reducible refine gate_callee (f:=99) rfl ?_);refine goesL_ (some 22) rfl rfl Try.func99 (by kernel_rfl) rfl #[.int .i64 a0] rfl (by (try simp only [List.map_toArray,List.map_cons,List.map_nil]);first|done|rfl|(simp only [List.length_drop,List.length_take];rfl)) ?_;(with_reducible refine (mosaicref03_half.calls k a0 t619 _ A8.out).mono ?_);rintro e w' ⟨rfl,⟨nd,rfl⟩⟩;refine ⟨_,rfl,?_⟩;(try (rw [drewN_self w19];generalize hq_:World.drewN w19 _=w19;have n0_:Aside0 (w19.heap[gb618]?=some (.cells #[.string (⟨#[]⟩:ByteArray),.slice none 0 0] 142 (0,0))):=⟨by rw [← hq_];exact (by (with_reducible repeat (first|refine blk_drewN ?_ _|refine blk_drew ?_|refine blk_alloc ?_ _));exact BK618.out)⟩;have n1_:Aside0 (Below w.heap.size w w19):=⟨by rw [← hq_];exact (by repeat (first|(with_reducible first|exact HB.out|apply below_alloc|apply pw_below_drewN|apply below_drew1|refine below_set ?_ GE618.out)|exact HB.out))⟩;clear BK618 HB hq_;have BK618:=n0_;have HB:=n1_;clear n0_ n1_));have p620:0≤((ji9):Int):=of_decide_eq_true (by first|(with_reducible assumption)|assumption);have q620:(ji9) < (l3.length:Int):=of_decide_eq_true (by first|(with_reducible assumption)|assumption);obtain ⟨ad620,e620,hx620_0⟩:=Kd.at_string HR3.out (ji9) p620 q620;cases e620;replace hx620_0:=(HB.out.cell (World.block_lt_of_cell? w _ hx620_0)).trans hx620_0;replace p620:=eq_true p620;replace q620:=eq_true q620;obtain ⟨i020,hi020,_,hsz20,_⟩:=info_parts info9;obtain ⟨hcut20,hA20,hC20⟩:=print_take_of (P:=Try.prog) Value.string (⟨#[]⟩:ByteArray) 39 9 .i64 Try.underlying39 hi020 hsz20 (some ad620) c3 l3 (ji9) (of_decide_eq_true (by first|(with_reducible assumption)|assumption)) (of_decide_eq_true (by first|(with_reducible assumption)|assumption)) HC3.out;have HR621:=Aside0.mk (Kd.C_of_reads (h1:=fun _=>rfl) (hA20 _ (Kd.reads_of_C HR3.out)));have HC621:=Aside0.mk hC20;clear hA20 hC20 hi020 hsz20)|((with_reducible refine gate_callee (f:=112) rfl ?_);refine goesL_ (some 41) rfl rfl Try.func112 (by kernel_rfl) rfl #[.int .i64 t619,.int .i64 a1,.string a2,.slice (some ad620) (l3.take ((ji9):Int).toNat).length c3] rfl (by (try simp only [List.map_toArray,List.map_cons,List.map_nil]);first|done|(rw [show (l3.take ((ji9):Int).toNat).length=(ji9).toNat from (by rw [List.length_take];have h_:((ji9):Int)≤(l3.length:Int):=of_decide_eq_true (by first|(with_reducible assumption)|assumption);omega)] <;> rfl)|(simp only [hji9];rfl)|rfl|(simp only [List.length_drop,List.length_take];rfl)) ?_;(with_reducible refine (ih k (by omega) t619 a1 a2 _ _ (l3.take ((ji9):Int).toNat) t622 t623 _ ?side1 ?side2 A15.out).mono ?_);(case side1=>repeat (first|exact (Kd.C_below HR621.out HB.out)|(with_reducible refine Kd.C_alloc ?_ _)|(with_reducible refine Kd.C_drewN ?_ _)|(with_reducible refine Kd.C_drew ?_)));(case side2=>exact HC621.out);rintro e w21 ⟨v624,rfl,ho0,hb⟩;refine ⟨_,rfl,?_⟩;have n0_:=Aside0.mk (Kd.R_lower ho0 (below_size (by repeat (first|(with_reducible first|exact HB.out|apply below_alloc|apply pw_below_drewN|apply below_drew1|refine below_set ?_ GE618.out)|exact HB.out))));have n1_:=Aside0.mk (blk_below (g:=gb618) (o:=.cells #[.string (⟨#[]⟩:ByteArray),.slice none 0 0] 142 (0,0)) (by (with_reducible repeat (first|refine blk_drewN ?_ _|refine blk_drew ?_|refine blk_alloc ?_ _));exact BK618.out) hb);have n2_:=Aside0.mk (below_step (by repeat (first|(with_reducible first|exact HB.out|apply below_alloc|apply pw_below_drewN|apply below_drew1|refine below_set ?_ GE618.out)|exact HB.out)) hb);clear BK618;clear HB;have HO625:=n0_;have BK618:=n1_;have HB:=n2_;clear n0_ n1_ n2_;(try clear hb);(try clear hb2);(try clear hk);(try clear hi);(try clear ho0))|((with_reducible refine gate_dst (N:=12) rfl ?_);refine box_event ?hg (N:=12) ?hd (cs:=#[.string (⟨#[]⟩:ByteArray),.slice none 0 0]) (t:=142) ?hr ?_;(case hd=>rfl);(case hg=>rfl);(case hr=>first|(go_simp;done)|(go_simp;rfl));intro gb626 hg w22 hbox hb;have n0_:=Aside0.mk (Kd.R_below (by (with_reducible repeat (first|apply Kd.R_alloc|apply Kd.R_drewN|apply Kd.R_drew));exact HO625.out) hb);have n1_:=Aside0.mk (blk_below (g:=gb618) (o:=.cells #[.string (⟨#[]⟩:ByteArray),.slice none 0 0] 142 (0,0)) (by (with_reducible repeat (first|refine blk_drewN ?_ _|refine blk_drew ?_|refine blk_alloc ?_ _));exact BK618.out) hb);have n2_:=Aside0.mk (below_step (by repeat (first|(with_reducible first|exact HB.out|apply below_alloc|apply pw_below_drewN|apply below_drew1|refine below_set ?_ GE618.out)|exact HB.out)) hb);have n3_:=Aside0.mk (hbox);have n4_:=Aside0.mk ((by rw [hg];exact (below_size (by repeat (first|(with_reducible first|exact HB.out|apply below_alloc|apply pw_below_drewN|apply below_drew1|refine below_set ?_ GE618.out)|exact HB.out))):w.heap.size≤gb626));have n5_:=Aside0.mk ((by rw [hg];exact (below_size (by repeat (first|(with_reducible first|exact HB.out|apply below_alloc|apply pw_below_drewN|apply below_drew1|refine below_set ?_ GE618.out)|exact HB.out))):w.heap.size≤gb626));have n6_:=Aside0.mk ((by rw [hg];exact Nat.ne_of_lt (blk_lt (g:=gb618) (o:=.cells #[.string (⟨#[]⟩:ByteArray),.slice none 0 0] 142 (0,0)) (by (with_reducible repeat (first|refine blk_drewN ?_ _|refine blk_drew ?_|refine blk_alloc ?_ _));exact BK618.out)):gb618≠gb626));have n7_:=Aside0.mk ((by rw [hg];exact Nat.ne_of_gt (blk_lt (g:=gb618) (o:=.cells #[.string (⟨#[]⟩:ByteArray),.slice none 0 0] 142 (0,0)) (by (with_reducible repeat (first|refine blk_drewN ?_ _|refine blk_drew ?_|refine blk_alloc ?_ _));exact BK618.out)):gb626≠gb618));clear HO625;clear BK618;clear HB;have HO625:=n0_;have BK618:=n1_;have HB:=n2_;have BK626:=n3_;have GW626:=n4_;have GE626:=n5_;have NB618_626:=n6_;have NB626_618:=n7_;clear n0_ n1_ n2_ n3_ n4_ n5_ n6_ n7_;clear hb hbox hg;have hnb23:=NB626_618.out;have hnc23:=NB618_626.out;have hcz24_0:w22.cell? ⟨gb626,0,none⟩=some (.string (⟨#[]⟩:ByteArray)):=(blk_cell BK626.out 0).trans rfl;have hcz24_1:w22.cell? ⟨gb626,1,none⟩=some (.slice none 0 0):=(blk_cell BK626.out 1).trans rfl;have hfz24_0:=blk_frozen BK626.out 0;have hfz24_1:=blk_frozen BK626.out 1;obtain ⟨Ao25,co25,eo25⟩:=Kd.R_slice HO625.out;subst eo25)|((with_reducible refine gate_callee (f:=51) rfl ?_);refine goesL_ (some 45) rfl rfl Try.func51 (by kernel_rfl) rfl #[.string t622,.string (rdOf ByteArray.empty l3 (ji9))] rfl (by (try simp only [List.map_toArray,List.map_cons,List.map_nil]);first|done|(simp only [hji9];rfl)|rfl|(simp only [List.length_drop,List.length_take];rfl)) ?_;(with_reducible refine (mosaicref03_KnotText.calls t622 (rdOf ByteArray.empty l3 (ji9)) t627 _ A16.out).mono ?_);rintro e w' ⟨rfl,⟨nd,rfl⟩⟩;refine ⟨_,rfl,?_⟩)|((with_reducible refine gate_builtin (b:=.append) (xs:=#[.tmp 47,.tmp 49]) rfl ?_);at_builtin;refine Kd.R_append Kd.string (w0:=w) w.heap.size rfl (.tmp 47) (.tmp 49) 39 9 (.string ⟨#[]⟩) 16 rfl Try.underlying39 info9 rfl (by decide) (by omega) (.slice Ao25 t623.length co25) t623 t627 [.string t627] (fun _=>True) (fun _=>False) rfl (by first|(go_simp;done)|(go_simp;rfl)) ?aP (fun _ hk=>hk.elim) ?aF ?aO ?aB ?aS ?aL ?_;(case aP=>exact rfl);(case aB=>exact (by repeat (first|(with_reducible first|exact HB.out|apply below_alloc|apply pw_below_drewN|apply below_drew1|refine below_set ?_ GE618.out|refine below_set ?_ GE626.out)|exact HB.out)));(case aF=>exact (fun _ _=>trivial));(case aO=>exact (by (with_reducible repeat (first|apply Kd.R_alloc|apply Kd.R_drewN|apply Kd.R_drew));exact Kd.R_mono (Kd.R_far (p:=⟨gb626,1,none⟩) (Kd.R_far (p:=⟨gb626,0,none⟩) (Kd.R_types HO625.out BK626.out (by decide)) (fun _ hk=>hk.2) (.string t622)) (fun _ hk=>hk.2) (.slice Ao25 t623.length co25)) (fun _ hk=>trivial)));(case aS=>exact (below_size (by repeat (first|(with_reducible first|exact HB.out|apply below_alloc|apply pw_below_drewN|apply below_drew1|refine below_set ?_ GE618.out|refine below_set ?_ GE626.out)|exact HB.out))));(case aL=>have:=LMc17.out;omega);intro v629 w26 ho hb hg hat;rw [← Ny628.out] at ho;have n0_:=Aside0.mk (blk_grown (g:=gb618) (o:=.cells #[.string (⟨#[]⟩:ByteArray),.slice none 0 0] 142 (0,0)) (by (with_reducible repeat (first|refine blk_drewN ?_ _|refine blk_drew ?_|refine blk_alloc ?_ _));refine blk_far ?_ NB618_626.out _;(with_reducible repeat (first|refine blk_drewN ?_ _|refine blk_drew ?_|refine blk_alloc ?_ _));refine blk_far ?_ NB618_626.out _;(with_reducible repeat (first|refine blk_drewN ?_ _|refine blk_drew ?_|refine blk_alloc ?_ _));exact BK618.out) hg (Kd.R_ne HO625.out BK618.out (by decide)));have n1_:=Aside0.mk (blk_grown (g:=gb626) (o:=.cells #[.string t622,.slice Ao25 t623.length co25] 142 (0,0)) (by (with_reducible repeat (first|refine blk_drewN ?_ _|refine blk_drew ?_|refine blk_alloc ?_ _));refine blk_put (cs:=#[.string t622,.slice none 0 0]) ?_ 1 _ rfl;(with_reducible repeat (first|refine blk_drewN ?_ _|refine blk_drew ?_|refine blk_alloc ?_ _));refine blk_put (cs:=#[.string (⟨#[]⟩:ByteArray),.slice none 0 0]) ?_ 0 _ rfl;(with_reducible repeat (first|refine blk_drewN ?_ _|refine blk_drew ?_|refine blk_alloc ?_ _));exact BK626.out) hg (Kd.R_ne HO625.out BK626.out (by decide)));have n2_:=Aside0.mk (hb);have n3_:=Aside0.mk (ho);clear BK618;clear BK626;clear HB;clear HO625;have BK618:=n0_;have BK626:=n1_;have HB:=n2_;have HO630:=n3_;clear n0_ n1_ n2_ n3_;clear ho hb hg hat;obtain ⟨Ao27,co27,eo27⟩:=Kd.R_slice HO630.out;subst eo27;have hcz28_0:w26.cell? ⟨gb626,0,none⟩=some (.string t622):=(blk_cell BK626.out 0).trans rfl;have hcz28_1:w26.cell? ⟨gb626,1,none⟩=some (.slice Ao25 t623.length co25):=(blk_cell BK626.out 1).trans rfl;have hfz28_0:=blk_frozen BK626.out 0;have hfz28_1:=blk_frozen BK626.out 1)|((with_reducible refine gate_callee (f:=27) rfl ?_);refine goesL_ (some 53) rfl rfl Try.func27 (by kernel_rfl) rfl #[.string t627] rfl (by (try simp only [List.map_toArray,List.map_cons,List.map_nil]);first|done|rfl|(simp only [List.length_drop,List.length_take];rfl)) ?_;(with_reducible refine (mosaicref01_Sum.calls k t627 t631 _ A18.out).mono ?_);rintro e w29 ⟨rfl,hb⟩;refine ⟨_,rfl,?_⟩;have n0_:=Aside0.mk (Kd.R_below (by (with_reducible repeat (first|apply Kd.R_alloc|apply Kd.R_drewN|apply Kd.R_drew));exact (Kd.R_mono (Kd.R_far (p:=⟨gb626,1,none⟩) (Kd.R_types HO630.out BK626.out (by decide)) (fun _ hk=>hk.2) (.slice Ao27 y628.length co27)) (fun _ h_=>h_.1))) hb);have n1_:=Aside0.mk (blk_below (g:=gb618) (o:=.cells #[.string (⟨#[]⟩:ByteArray),.slice none 0 0] 142 (0,0)) (by (with_reducible repeat (first|refine blk_drewN ?_ _|refine blk_drew ?_|refine blk_alloc ?_ _));refine blk_far ?_ NB618_626.out _;(with_reducible repeat (first|refine blk_drewN ?_ _|refine blk_drew ?_|refine blk_alloc ?_ _));exact BK618.out) hb);have n2_:=Aside0.mk (blk_below (g:=gb626) (o:=.cells #[.string t622,.slice Ao27 y628.length co27] 142 (0,0)) (by (with_reducible repeat (first|refine blk_drewN ?_ _|refine blk_drew ?_|refine blk_alloc ?_ _));refine blk_put (cs:=#[.string t622,.slice Ao25 t623.length co25]) ?_ 1 _ rfl;(with_reducible repeat (first|refine blk_drewN ?_ _|refine blk_drew ?_|refine blk_alloc ?_ _));exact BK626.out) hb);have n3_:=Aside0.mk (below_step (by repeat (first|(with_reducible first|exact HB.out|apply below_alloc|apply pw_below_drewN|apply below_drew1|refine below_set ?_ GE618.out|refine below_set ?_ GE626.out)|exact HB.out)) hb);clear HO630;clear BK618;clear BK626;clear HB;have HO630:=n0_;have BK618:=n1_;have BK626:=n2_;have HB:=n3_;clear n0_ n1_ n2_ n3_;(try clear hb);(try clear hb2);(try clear hk);(try clear hi);have hcz30_0:w29.cell? ⟨gb626,0,none⟩=some (.string t622):=(blk_cell BK626.out 0).trans rfl;have hcz30_1:w29.cell? ⟨gb626,1,none⟩=some (.slice Ao27 y628.length co27):=(blk_cell BK626.out 1).trans rfl;have hfz30_0:=blk_frozen BK626.out 0;have hfz30_1:=blk_frozen BK626.out 1;have hcz31_0:w29.cell? ⟨gb618,0,none⟩=some (.string (⟨#[]⟩:ByteArray)):=(blk_cell BK618.out 0).trans rfl;have hcz31_1:w29.cell? ⟨gb618,1,none⟩=some (.slice none 0 0):=(blk_cell BK618.out 1).trans rfl;have hfz31_0:=blk_frozen BK618.out 0;have hfz31_1:=blk_frozen BK618.out 1))
       refine bodyPost_ret (results_cell_row rfl _ _ gb618 142 #[.string t631,.slice Ao27 y628.length co27] (0,0) _ rfl (by (with_reducible repeat (first|refine blk_drewN ?_ _|refine blk_drew ?_|refine blk_alloc ?_ _));refine blk_put (cs:=#[.string t631,.slice none 0 0]) ?_ 1 _ rfl;(with_reducible repeat (first|refine blk_drewN ?_ _|refine blk_drew ?_|refine blk_alloc ?_ _));refine blk_put (cs:=#[.string (⟨#[]⟩:ByteArray),.slice none 0 0]) ?_ 0 _ rfl;(with_reducible repeat (first|refine blk_drewN ?_ _|refine blk_drew ?_|refine blk_alloc ?_ _));refine blk_far ?_ NB618_626.out _;(with_reducible repeat (first|refine blk_drewN ?_ _|refine blk_drew ?_|refine blk_alloc ?_ _));exact BK618.out) Try.underlying142 rfl (by kernel_rfl)) rfl ?_
       exact ⟨_,by first|rfl|(simp [errW_none,errW_some] <;> rfl)|(simp only [← hji9];first|rfl|(simp [errW_none,errW_some] <;> rfl))|(simp [*,errW_none,errW_some] <;> rfl),by (with_reducible repeat (first|apply Kd.R_alloc|apply Kd.R_drewN|apply Kd.R_drew));exact Kd.R_mono (Kd.R_far (p:=⟨gb618,1,none⟩) (Kd.R_far (p:=⟨gb618,0,none⟩) (Kd.R_far (p:=⟨gb626,0,none⟩) (Kd.R_types (Kd.R_types HO630.out BK626.out (by decide)) BK618.out (by decide)) (fun _ hk=>hk.1.2) (.string t631)) (fun _ hk=>hk.2) (.string t631)) (fun _ hk=>hk.2) (.slice Ao27 y628.length co27)) (fun _ hk=>trivial),by repeat (first|(with_reducible first|exact HB.out|apply below_alloc|apply pw_below_drewN|apply below_drew1|refine below_set ?_ GE618.out|refine below_set ?_ GE626.out)|exact HB.out)⟩
      ·
       rw [if_neg c17] at H
       exact absurd H (by simp)
     ·
      rw [if_neg c14] at H
      have c14b0:decide (a1 < t619)=false:=decide_eq_false c14
      clear c14
      replace H:=Option.bind_eq_some_iff.mp H
      obtain ⟨⟨t632,t633⟩,A320,H⟩:=H
      replace H:((mosaicref03_KnotText.f (rdOf ByteArray.empty l3 (ji9)) t632).bind fun t637=>(if t633.length < 8796093022208 then ((mosaicref01_Sum.f k t637).bind fun t641=>(some (t641,(t633 ++ [t637])))) else (none)))=some (r1,r2):=H
      have A32:=Aside0.mk A320
      clear A320
      replace H:=Option.bind_eq_some_iff.mp H
      obtain ⟨t637,A330,H⟩:=H
      replace H:(if t633.length < 8796093022208 then ((mosaicref01_Sum.f k t637).bind fun t641=>(some (t641,(t633 ++ [t637])))) else (none))=some (r1,r2):=H
      have A33:=Aside0.mk A330
      clear A330
      by_cases c34:t633.length < 8796093022208
      ·
       rw [if_pos c34] at H
       have LMc34:=Aside0.mk c34
       clear c34
       obtain ⟨y638,hy638⟩:∃ y_:List ByteArray,y_=(t633 ++ [t637]):=⟨_,rfl⟩
       replace H:((mosaicref01_Sum.f k t637).bind fun t641=>(some (t641,y638)))=some (r1,r2):=by first|(rw [hy638];with_reducible exact H)|(have H2_:=(Option.bind_some _ _).symm.trans H;rw [hy638];with_reducible exact H2_)|(have H2_:=(Option.bind_some _ _).symm.trans H;with_reducible exact H2_)|with_reducible exact H|(rw [hy638];exact H)|exact H
       have Ny638:=Aside0.mk hy638
       clear hy638
       replace H:=Option.bind_eq_some_iff.mp H
       obtain ⟨t641,A350,H⟩:=H
       replace H:(some (t641,y638))=some (r1,r2):=H
       have A35:=Aside0.mk A350
       clear A350
       simp only [Option.some.injEq,Prod.mk.injEq] at H
       obtain ⟨rfl,rfl⟩:=H
       go_enter Try.func112,Try.ntmps112
       go_wp2_with (first|((with_reducible refine gate_dst (N:=8) rfl ?_);refine box_event ?hg (N:=8) ?hd (cs:=#[.string (⟨#[]⟩:ByteArray),.slice none 0 0]) (t:=142) ?hr ?_;(case hd=>rfl);(case hg=>rfl);(case hr=>first|(go_simp;done)|(go_simp;rfl));intro gb618 hg w36 hbox hb;have n0_:=Aside0.mk (below_step (by repeat (first|(with_reducible first|exact HB.out|apply below_alloc|apply pw_below_drewN|apply below_drew1)|exact HB.out)) hb);have n1_:=Aside0.mk (hbox);have n2_:=Aside0.mk ((by rw [hg];exact (below_size (by repeat (first|(with_reducible first|exact HB.out|apply below_alloc|apply pw_below_drewN|apply below_drew1)|exact HB.out))):w.heap.size≤gb618));have n3_:=Aside0.mk ((by rw [hg];exact (below_size (by repeat (first|(with_reducible first|exact HB.out|apply below_alloc|apply pw_below_drewN|apply below_drew1)|exact HB.out))):w.heap.size≤gb618));clear HB;have HB:=n0_;have BK618:=n1_;have GW618:=n2_;have GE618:=n3_;clear n0_ n1_ n2_ n3_;clear hb hbox hg)|((with_reducible refine gate_callee (f:=99) rfl ?_);refine goesL_ (some 22) rfl rfl Try.func99 (by kernel_rfl) rfl #[.int .i64 a0] rfl (by (try simp only [List.map_toArray,List.map_cons,List.map_nil]);first|done|rfl|(simp only [List.length_drop,List.length_take];rfl)) ?_;(with_reducible refine (mosaicref03_half.calls k a0 t619 _ A8.out).mono ?_);rintro e w' ⟨rfl,⟨nd,rfl⟩⟩;refine ⟨_,rfl,?_⟩;(try (rw [drewN_self w36];generalize hq_:World.drewN w36 _=w36;have n0_:Aside0 (w36.heap[gb618]?=some (.cells #[.string (⟨#[]⟩:ByteArray),.slice none 0 0] 142 (0,0))):=⟨by rw [← hq_];exact (by (with_reducible repeat (first|refine blk_drewN ?_ _|refine blk_drew ?_|refine blk_alloc ?_ _));exact BK618.out)⟩;have n1_:Aside0 (Below w.heap.size w w36):=⟨by rw [← hq_];exact (by repeat (first|(with_reducible first|exact HB.out|apply below_alloc|apply pw_below_drewN|apply below_drew1|refine below_set ?_ GE618.out)|exact HB.out))⟩;clear BK618 HB hq_;have BK618:=n0_;have HB:=n1_;clear n0_ n1_));have p620:0≤((ji9):Int):=of_decide_eq_true (by first|(with_reducible assumption)|assumption);have q620:(ji9) < (l3.length:Int):=of_decide_eq_true (by first|(with_reducible assumption)|assumption);obtain ⟨ad620,e620,hx620_0⟩:=Kd.at_string HR3.out (ji9) p620 q620;cases e620;replace hx620_0:=(HB.out.cell (World.block_lt_of_cell? w _ hx620_0)).trans hx620_0;replace p620:=eq_true p620;replace q620:=eq_true q620;obtain ⟨i037,hi037,_,hsz37,_⟩:=info_parts info9;obtain ⟨hcut37,hA37,hC37⟩:=print_take_of (P:=Try.prog) Value.string (⟨#[]⟩:ByteArray) 39 9 .i64 Try.underlying39 hi037 hsz37 (some ad620) c3 l3 (ji9) (of_decide_eq_true (by first|(with_reducible assumption)|assumption)) (of_decide_eq_true (by first|(with_reducible assumption)|assumption)) HC3.out;have HR621:=Aside0.mk (Kd.C_of_reads (h1:=fun _=>rfl) (hA37 _ (Kd.reads_of_C HR3.out)));have HC621:=Aside0.mk hC37;clear hA37 hC37 hi037 hsz37)|((with_reducible refine gate_callee (f:=112) rfl ?_);refine goesL_ (some 64) rfl rfl Try.func112 (by kernel_rfl) rfl #[.int .i64 (wrap64 (a0 - t619)),.int .i64 (wrap64 (a1 - t619)),.string a2,.slice (some ad620) (l3.take ((ji9):Int).toNat).length c3] rfl (by (try simp only [List.map_toArray,List.map_cons,List.map_nil]);first|done|(rw [show (l3.take ((ji9):Int).toNat).length=(ji9).toNat from (by rw [List.length_take];have h_:((ji9):Int)≤(l3.length:Int):=of_decide_eq_true (by first|(with_reducible assumption)|assumption);omega)] <;> rfl)|(simp only [hji9];rfl)|rfl|(simp only [List.length_drop,List.length_take];rfl)) ?_;(with_reducible refine (ih k (by omega) (wrap64 (a0 - t619)) (wrap64 (a1 - t619)) a2 _ _ (l3.take ((ji9):Int).toNat) t632 t633 _ ?side1 ?side2 A32.out).mono ?_);(case side1=>repeat (first|exact (Kd.C_below HR621.out HB.out)|(with_reducible refine Kd.C_alloc ?_ _)|(with_reducible refine Kd.C_drewN ?_ _)|(with_reducible refine Kd.C_drew ?_)));(case side2=>exact HC621.out);rintro e w38 ⟨v634,rfl,ho0,hb⟩;refine ⟨_,rfl,?_⟩;have n0_:=Aside0.mk (Kd.R_lower ho0 (below_size (by repeat (first|(with_reducible first|exact HB.out|apply below_alloc|apply pw_below_drewN|apply below_drew1|refine below_set ?_ GE618.out)|exact HB.out))));have n1_:=Aside0.mk (blk_below (g:=gb618) (o:=.cells #[.string (⟨#[]⟩:ByteArray),.slice none 0 0] 142 (0,0)) (by (with_reducible repeat (first|refine blk_drewN ?_ _|refine blk_drew ?_|refine blk_alloc ?_ _));exact BK618.out) hb);have n2_:=Aside0.mk (below_step (by repeat (first|(with_reducible first|exact HB.out|apply below_alloc|apply pw_below_drewN|apply below_drew1|refine below_set ?_ GE618.out)|exact HB.out)) hb);clear BK618;clear HB;have HO635:=n0_;have BK618:=n1_;have HB:=n2_;clear n0_ n1_ n2_;(try clear hb);(try clear hb2);(try clear hk);(try clear hi);(try clear ho0))|((with_reducible refine gate_dst (N:=14) rfl ?_);refine box_event ?hg (N:=14) ?hd (cs:=#[.string (⟨#[]⟩:ByteArray),.slice none 0 0]) (t:=142) ?hr ?_;(case hd=>rfl);(case hg=>rfl);(case hr=>first|(go_simp;done)|(go_simp;rfl));intro gb636 hg w39 hbox hb;have n0_:=Aside0.mk (Kd.R_below (by (with_reducible repeat (first|apply Kd.R_alloc|apply Kd.R_drewN|apply Kd.R_drew));exact HO635.out) hb);have n1_:=Aside0.mk (blk_below (g:=gb618) (o:=.cells #[.string (⟨#[]⟩:ByteArray),.slice none 0 0] 142 (0,0)) (by (with_reducible repeat (first|refine blk_drewN ?_ _|refine blk_drew ?_|refine blk_alloc ?_ _));exact BK618.out) hb);have n2_:=Aside0.mk (below_step (by repeat (first|(with_reducible first|exact HB.out|apply below_alloc|apply pw_below_drewN|apply below_drew1|refine below_set ?_ GE618.out)|exact HB.out)) hb);have n3_:=Aside0.mk (hbox);have n4_:=Aside0.mk ((by rw [hg];exact (below_size (by repeat (first|(with_reducible first|exact HB.out|apply below_alloc|apply pw_below_drewN|apply below_drew1|refine below_set ?_ GE618.out)|exact HB.out))):w.heap.size≤gb636));have n5_:=Aside0.mk ((by rw [hg];exact (below_size (by repeat (first|(with_reducible first|exact HB.out|apply below_alloc|apply pw_below_drewN|apply below_drew1|refine below_set ?_ GE618.out)|exact HB.out))):w.heap.size≤gb636));have n6_:=Aside0.mk ((by rw [hg];exact Nat.ne_of_lt (blk_lt (g:=gb618) (o:=.cells #[.string (⟨#[]⟩:ByteArray),.slice none 0 0] 142 (0,0)) (by (with_reducible repeat (first|refine blk_drewN ?_ _|refine blk_drew ?_|refine blk_alloc ?_ _));exact BK618.out)):gb618≠gb636));have n7_:=Aside0.mk ((by rw [hg];exact Nat.ne_of_gt (blk_lt (g:=gb618) (o:=.cells #[.string (⟨#[]⟩:ByteArray),.slice none 0 0] 142 (0,0)) (by (with_reducible repeat (first|refine blk_drewN ?_ _|refine blk_drew ?_|refine blk_alloc ?_ _));exact BK618.out)):gb636≠gb618));clear HO635;clear BK618;clear HB;have HO635:=n0_;have BK618:=n1_;have HB:=n2_;have BK636:=n3_;have GW636:=n4_;have GE636:=n5_;have NB618_636:=n6_;have NB636_618:=n7_;clear n0_ n1_ n2_ n3_ n4_ n5_ n6_ n7_;clear hb hbox hg;have hnb40:=NB636_618.out;have hnc40:=NB618_636.out;have hcz41_0:w39.cell? ⟨gb636,0,none⟩=some (.string (⟨#[]⟩:ByteArray)):=(blk_cell BK636.out 0).trans rfl;have hcz41_1:w39.cell? ⟨gb636,1,none⟩=some (.slice none 0 0):=(blk_cell BK636.out 1).trans rfl;have hfz41_0:=blk_frozen BK636.out 0;have hfz41_1:=blk_frozen BK636.out 1;obtain ⟨Ao42,co42,eo42⟩:=Kd.R_slice HO635.out;subst eo42)|((with_reducible refine gate_callee (f:=51) rfl ?_);refine goesL_ (some 68) rfl rfl Try.func51 (by kernel_rfl) rfl #[.string (rdOf ByteArray.empty l3 (ji9)),.string t632] rfl (by (try simp only [List.map_toArray,List.map_cons,List.map_nil]);first|done|(simp only [hji9];rfl)|rfl|(simp only [List.length_drop,List.length_take];rfl)) ?_;(with_reducible refine (mosaicref03_KnotText.calls (rdOf ByteArray.empty l3 (ji9)) t632 t637 _ A33.out).mono ?_);rintro e w' ⟨rfl,⟨nd,rfl⟩⟩;refine ⟨_,rfl,?_⟩)|((with_reducible refine gate_builtin (b:=.append) (xs:=#[.tmp 70,.tmp 72]) rfl ?_);at_builtin;refine Kd.R_append Kd.string (w0:=w) w.heap.size rfl (.tmp 70) (.tmp 72) 39 9 (.string ⟨#[]⟩) 16 rfl Try.underlying39 info9 rfl (by decide) (by omega) (.slice Ao42 t633.length co42) t633 t637 [.string t637] (fun _=>True) (fun _=>False) rfl (by first|(go_simp;done)|(go_simp;rfl)) ?aP (fun _ hk=>hk.elim) ?aF ?aO ?aB ?aS ?aL ?_;(case aP=>exact rfl);(case aB=>exact (by repeat (first|(with_reducible first|exact HB.out|apply below_alloc|apply pw_below_drewN|apply below_drew1|refine below_set ?_ GE618.out|refine below_set ?_ GE636.out)|exact HB.out)));(case aF=>exact (fun _ _=>trivial));(case aO=>exact (by (with_reducible repeat (first|apply Kd.R_alloc|apply Kd.R_drewN|apply Kd.R_drew));exact Kd.R_mono (Kd.R_far (p:=⟨gb636,1,none⟩) (Kd.R_far (p:=⟨gb636,0,none⟩) (Kd.R_types HO635.out BK636.out (by decide)) (fun _ hk=>hk.2) (.string t632)) (fun _ hk=>hk.2) (.slice Ao42 t633.length co42)) (fun _ hk=>trivial)));(case aS=>exact (below_size (by repeat (first|(with_reducible first|exact HB.out|apply below_alloc|apply pw_below_drewN|apply below_drew1|refine below_set ?_ GE618.out|refine below_set ?_ GE636.out)|exact HB.out))));(case aL=>have:=LMc34.out;omega);intro v639 w43 ho hb hg hat;rw [← Ny638.out] at ho;have n0_:=Aside0.mk (blk_grown (g:=gb618) (o:=.cells #[.string (⟨#[]⟩:ByteArray),.slice none 0 0] 142 (0,0)) (by (with_reducible repeat (first|refine blk_drewN ?_ _|refine blk_drew ?_|refine blk_alloc ?_ _));refine blk_far ?_ NB618_636.out _;(with_reducible repeat (first|refine blk_drewN ?_ _|refine blk_drew ?_|refine blk_alloc ?_ _));refine blk_far ?_ NB618_636.out _;(with_reducible repeat (first|refine blk_drewN ?_ _|refine blk_drew ?_|refine blk_alloc ?_ _));exact BK618.out) hg (Kd.R_ne HO635.out BK618.out (by decide)));have n1_:=Aside0.mk (blk_grown (g:=gb636) (o:=.cells #[.string t632,.slice Ao42 t633.length co42] 142 (0,0)) (by (with_reducible repeat (first|refine blk_drewN ?_ _|refine blk_drew ?_|refine blk_alloc ?_ _));refine blk_put (cs:=#[.string t632,.slice none 0 0]) ?_ 1 _ rfl;(with_reducible repeat (first|refine blk_drewN ?_ _|refine blk_drew ?_|refine blk_alloc ?_ _));refine blk_put (cs:=#[.string (⟨#[]⟩:ByteArray),.slice none 0 0]) ?_ 0 _ rfl;(with_reducible repeat (first|refine blk_drewN ?_ _|refine blk_drew ?_|refine blk_alloc ?_ _));exact BK636.out) hg (Kd.R_ne HO635.out BK636.out (by decide)));have n2_:=Aside0.mk (hb);have n3_:=Aside0.mk (ho);clear BK618;clear BK636;clear HB;clear HO635;have BK618:=n0_;have BK636:=n1_;have HB:=n2_;have HO640:=n3_;clear n0_ n1_ n2_ n3_;clear ho hb hg hat;obtain ⟨Ao44,co44,eo44⟩:=Kd.R_slice HO640.out;subst eo44;have hcz45_0:w43.cell? ⟨gb636,0,none⟩=some (.string t632):=(blk_cell BK636.out 0).trans rfl;have hcz45_1:w43.cell? ⟨gb636,1,none⟩=some (.slice Ao42 t633.length co42):=(blk_cell BK636.out 1).trans rfl;have hfz45_0:=blk_frozen BK636.out 0;have hfz45_1:=blk_frozen BK636.out 1)|((with_reducible refine gate_callee (f:=27) rfl ?_);refine goesL_ (some 76) rfl rfl Try.func27 (by kernel_rfl) rfl #[.string t637] rfl (by (try simp only [List.map_toArray,List.map_cons,List.map_nil]);first|done|rfl|(simp only [List.length_drop,List.length_take];rfl)) ?_;(with_reducible refine (mosaicref01_Sum.calls k t637 t641 _ A35.out).mono ?_);rintro e w46 ⟨rfl,hb⟩;refine ⟨_,rfl,?_⟩;have n0_:=Aside0.mk (Kd.R_below (by (with_reducible repeat (first|apply Kd.R_alloc|apply Kd.R_drewN|apply Kd.R_drew));exact (Kd.R_mono (Kd.R_far (p:=⟨gb636,1,none⟩) (Kd.R_types HO640.out BK636.out (by decide)) (fun _ hk=>hk.2) (.slice Ao44 y638.length co44)) (fun _ h_=>h_.1))) hb);have n1_:=Aside0.mk (blk_below (g:=gb618) (o:=.cells #[.string (⟨#[]⟩:ByteArray),.slice none 0 0] 142 (0,0)) (by (with_reducible repeat (first|refine blk_drewN ?_ _|refine blk_drew ?_|refine blk_alloc ?_ _));refine blk_far ?_ NB618_636.out _;(with_reducible repeat (first|refine blk_drewN ?_ _|refine blk_drew ?_|refine blk_alloc ?_ _));exact BK618.out) hb);have n2_:=Aside0.mk (blk_below (g:=gb636) (o:=.cells #[.string t632,.slice Ao44 y638.length co44] 142 (0,0)) (by (with_reducible repeat (first|refine blk_drewN ?_ _|refine blk_drew ?_|refine blk_alloc ?_ _));refine blk_put (cs:=#[.string t632,.slice Ao42 t633.length co42]) ?_ 1 _ rfl;(with_reducible repeat (first|refine blk_drewN ?_ _|refine blk_drew ?_|refine blk_alloc ?_ _));exact BK636.out) hb);have n3_:=Aside0.mk (below_step (by repeat (first|(with_reducible first|exact HB.out|apply below_alloc|apply pw_below_drewN|apply below_drew1|refine below_set ?_ GE618.out|refine below_set ?_ GE636.out)|exact HB.out)) hb);clear HO640;clear BK618;clear BK636;clear HB;have HO640:=n0_;have BK618:=n1_;have BK636:=n2_;have HB:=n3_;clear n0_ n1_ n2_ n3_;(try clear hb);(try clear hb2);(try clear hk);(try clear hi);have hcz47_0:w46.cell? ⟨gb636,0,none⟩=some (.string t632):=(blk_cell BK636.out 0).trans rfl;have hcz47_1:w46.cell? ⟨gb636,1,none⟩=some (.slice Ao44 y638.length co44):=(blk_cell BK636.out 1).trans rfl;have hfz47_0:=blk_frozen BK636.out 0;have hfz47_1:=blk_frozen BK636.out 1;have hcz48_0:w46.cell? ⟨gb618,0,none⟩=some (.string (⟨#[]⟩:ByteArray)):=(blk_cell BK618.out 0).trans rfl;have hcz48_1:w46.cell? ⟨gb618,1,none⟩=some (.slice none 0 0):=(blk_cell BK618.out 1).trans rfl;have hfz48_0:=blk_frozen BK618.out 0;have hfz48_1:=blk_frozen BK618.out 1))
       refine bodyPost_ret (results_cell_row rfl _ _ gb618 142 #[.string t641,.slice Ao44 y638.length co44] (0,0) _ rfl (by (with_reducible repeat (first|refine blk_drewN ?_ _|refine blk_drew ?_|refine blk_alloc ?_ _));refine blk_put (cs:=#[.string t641,.slice none 0 0]) ?_ 1 _ rfl;(with_reducible repeat (first|refine blk_drewN ?_ _|refine blk_drew ?_|refine blk_alloc ?_ _));refine blk_put (cs:=#[.string (⟨#[]⟩:ByteArray),.slice none 0 0]) ?_ 0 _ rfl;(with_reducible repeat (first|refine blk_drewN ?_ _|refine blk_drew ?_|refine blk_alloc ?_ _));refine blk_far ?_ NB618_636.out _;(with_reducible repeat (first|refine blk_drewN ?_ _|refine blk_drew ?_|refine blk_alloc ?_ _));exact BK618.out) Try.underlying142 rfl (by kernel_rfl)) rfl ?_
       exact ⟨_,by first|rfl|(simp [errW_none,errW_some] <;> rfl)|(simp only [← hji9];first|rfl|(simp [errW_none,errW_some] <;> rfl))|(simp [*,errW_none,errW_some] <;> rfl),by (with_reducible repeat (first|apply Kd.R_alloc|apply Kd.R_drewN|apply Kd.R_drew));exact Kd.R_mono (Kd.R_far (p:=⟨gb618,1,none⟩) (Kd.R_far (p:=⟨gb618,0,none⟩) (Kd.R_far (p:=⟨gb636,0,none⟩) (Kd.R_types (Kd.R_types HO640.out BK636.out (by decide)) BK618.out (by decide)) (fun _ hk=>hk.1.2) (.string t641)) (fun _ hk=>hk.2) (.string t641)) (fun _ hk=>hk.2) (.slice Ao44 y638.length co44)) (fun _ hk=>trivial),by repeat (first|(with_reducible first|exact HB.out|apply below_alloc|apply pw_below_drewN|apply below_drew1|refine below_set ?_ GE618.out|refine below_set ?_ GE636.out)|exact HB.out)⟩
      ·
       rw [if_neg c34] at H
       exact absurd H (by simp)
    ·
     rw [if_neg c13] at H
     exact absurd H (by simp)
   ·
    rw [if_neg c11] at H
    exact absurd H (by simp)
  ·
   rw [if_neg c10] at H
   exact absurd H (by simp)
end Go.Proofs.Ytelcaepenfjloaa.Print
/-! #### Pr75 -/
namespace Go.Proofs.Ytelcaepenfjloaa.Print
open Go.RowKit Go.Proofs.YtelcaepenfjloaaW.PrintWords Go.Proofs.YtelcaepenfjloaaW.PrintLast Go.Proofs.YtelcaepenfjloaaW.PrintMore
attribute [local go_sem] max2_int min2_int max_two min_two max_three min_three max_four min_four
set_option linter.unusedVariables false
set_option linter.unusedSimpArgs false
/-! ### merkle_Fold: function 75 -/
def merkle_Fold.f (k:Nat) (a0:Int) (a1:Int) (a2:ByteArray) (l3:List ByteArray):Option (ByteArray×Int):=(merkle_folds.f a0 a1 a2 l3).bind fun t610=>(if t610=0 then ((merkle_climb.f k a0 a1 a2 l3).bind fun bt611=>(some (bt611.1,0))) else (some ((⟨#[]⟩:ByteArray),t610)))
theorem merkle_Fold.mono:∀ a0 a1 a2 a3 k,LeO (merkle_Fold.f k a0 a1 a2 a3) (merkle_Fold.f (k+1) a0 a1 a2 a3):=by
 intro a0 a1 a2 a3 k
 unfold merkle_Fold.f
 repeat' first
   | (with_reducible exact merkle_climb.mono _ _ _ _ _)
   | (with_reducible exact LeO.refl _)
   | (with_reducible exact LeO.none _)
   | (with_reducible refine LeO.ite ?_ ?_)
   | (with_reducible refine LeO.bind ?_ (fun _=>?_))
   | exact merkle_climb.mono _ _ _ _ _
   | exact LeO.none _
   | refine LeO.ite ?_ ?_
   | refine LeO.bind ?_ (fun _=>?_)
set_option maxHeartbeats 8000000 in
set_option maxRecDepth 100000 in
theorem merkle_Fold.calls (k:Nat) (a0:Int) (a1:Int) (a2:ByteArray) (A3:Option Addr) (c3:Nat) (l3:List ByteArray) (r1:ByteArray) (r2:Int) (w:World) (hr3:Kd.C Kd.string w A3 l3.length l3) (hc3:l3.length≤c3) (h:merkle_Fold.f k a0 a1 a2 l3=some (r1,r2)) :
  Calls Try.prog 75 #[.int .i64 a0,.int .i64 a1,.string a2,.slice A3 l3.length c3] w fun e w'=>e=.returned (.tuple #[.string r1,.int .i64 r2])∧Below w.heap.size w w':=by
 have HR3:=Aside0.mk hr3
 have HC3:=Aside0.mk hc3
 clear hr3 hc3
 have HB:=Aside0.mk (Below.refl w.heap.size w)
 have H:((merkle_folds.f a0 a1 a2 l3).bind fun t610=>(if t610=0 then ((merkle_climb.f k a0 a1 a2 l3).bind fun bt611=>(some (bt611.1,0))) else (some ((⟨#[]⟩:ByteArray),t610))))=some (r1,r2):=h
 clear h
 replace H:=Option.bind_eq_some_iff.mp H
 obtain ⟨t610,A50,H⟩:=H
 replace H:(if t610=0 then ((merkle_climb.f k a0 a1 a2 l3).bind fun bt611=>(some (bt611.1,0))) else (some ((⟨#[]⟩:ByteArray),t610)))=some (r1,r2):=H
 have A5:=Aside0.mk A50
 clear A50
 by_cases c6:t610=0
 ·
  rw [if_pos c6] at H
  have c6b0:(t610 == 0)=true:=beq_iff_eq.mpr c6
  have c6b1:(t610 != 0)=false:=bne_eq_false_iff_eq.mpr c6
  clear c6
  replace H:=Option.bind_eq_some_iff.mp H
  obtain ⟨⟨t611,t612⟩,A70,H⟩:=H
  replace H:(some (t611,0))=some (r1,r2):=H
  have A7:=Aside0.mk A70
  clear A70
  simp only [Option.some.injEq,Prod.mk.injEq] at H
  obtain ⟨rfl,rfl⟩:=H
  go_enter Try.func75,Try.ntmps75
  go_wp2_with (first|((with_reducible refine gate_callee (f:=109) rfl ?_);refine goesL_ (some 17) rfl rfl Try.func109 (by kernel_rfl) rfl #[.int .i64 a0,.int .i64 a1,.string a2,.slice A3 l3.length c3] rfl (by (try simp only [List.map_toArray,List.map_cons,List.map_nil]);first|done|rfl|(simp only [List.length_drop,List.length_take];rfl)) ?_;(with_reducible refine (merkle_folds.calls a0 a1 a2 _ _ l3 t610 _ ?side1 ?side2 A5.out).mono ?_);(case side1=>repeat (first|exact HR3.out|(with_reducible refine Kd.C_alloc ?_ _)|(with_reducible refine Kd.C_drewN ?_ _)|(with_reducible refine Kd.C_drew ?_)));(case side2=>exact HC3.out);rintro e w8 ⟨rfl,hb⟩;refine ⟨_,rfl,?_⟩;have n0_:=Aside0.mk (below_step (by repeat (first|(with_reducible first|exact HB.out|apply below_alloc|apply pw_below_drewN|apply below_drew1)|exact HB.out)) hb);clear HB;have HB:=n0_;clear n0_;(try clear hb);(try clear hb2);(try clear hk);(try clear hi))|((with_reducible refine gate_callee (f:=110) rfl ?_);refine goesL_ (some 26) rfl rfl Try.func110 (by kernel_rfl) rfl #[.int .i64 a0,.int .i64 a1,.string a2,.slice A3 l3.length c3] rfl (by (try simp only [List.map_toArray,List.map_cons,List.map_nil]);first|done|rfl|(simp only [List.length_drop,List.length_take];rfl)) ?_;(with_reducible refine (merkle_climb.calls k a0 a1 a2 (fun k_=>k_ < w.heap.size) _ _ l3 t611 t612 _ ?side1 A7.out).mono ?_);(case side1=>exact Kd.V_mk HC3.out (Kd.F_below (Kd.C_F Kd.heap_string HR3.out) (by repeat (first|(with_reducible first|exact HB.out|apply below_alloc|apply pw_below_drewN|apply below_drew1)|exact HB.out))));rintro e w9 ⟨v613,rfl,ho0,hb⟩;refine ⟨_,rfl,?_⟩;have n0_:=Aside0.mk (Kd.R_lower (Kd.R_mono (ok':=fun k_=>True) ho0 (fun _ hk_=>trivial)) (below_size (by repeat (first|(with_reducible first|exact HB.out|apply below_alloc|apply pw_below_drewN|apply below_drew1)|exact HB.out))));have n1_:=Aside0.mk (below_step (by repeat (first|(with_reducible first|exact HB.out|apply below_alloc|apply pw_below_drewN|apply below_drew1)|exact HB.out)) hb);clear HB;have HO614:=n0_;have HB:=n1_;clear n0_ n1_;(try clear hb);(try clear hb2);(try clear hk);(try clear hi);(try clear ho0)))
  go_ret2
  exact ⟨by first|rfl|(simp [errW_none,errW_some] <;> rfl)|(simp [*,errW_none,errW_some] <;> rfl),by repeat (first|(with_reducible first|exact HB.out|apply below_alloc|apply pw_below_drewN|apply below_drew1)|exact HB.out)⟩
 ·
  rw [if_neg c6] at H
  have c6b0:(t610 == 0)=false:=beq_eq_false_iff_ne.mpr c6
  have c6b1:(t610 != 0)=true:=bne_iff_ne.mpr c6
  simp only [Option.some.injEq,Prod.mk.injEq] at H
  obtain ⟨rfl,rfl⟩:=H
  go_enter Try.func75,Try.ntmps75
  go_wp2_with (first|((with_reducible refine gate_callee (f:=109) rfl ?_);refine goesL_ (some 17) rfl rfl Try.func109 (by kernel_rfl) rfl #[.int .i64 a0,.int .i64 a1,.string a2,.slice A3 l3.length c3] rfl (by (try simp only [List.map_toArray,List.map_cons,List.map_nil]);first|done|rfl|(simp only [List.length_drop,List.length_take];rfl)) ?_;(with_reducible refine (merkle_folds.calls a0 a1 a2 _ _ l3 t610 _ ?side1 ?side2 A5.out).mono ?_);(case side1=>repeat (first|exact HR3.out|(with_reducible refine Kd.C_alloc ?_ _)|(with_reducible refine Kd.C_drewN ?_ _)|(with_reducible refine Kd.C_drew ?_)));(case side2=>exact HC3.out);rintro e w10 ⟨rfl,hb⟩;refine ⟨_,rfl,?_⟩;have n0_:=Aside0.mk (below_step (by repeat (first|(with_reducible first|exact HB.out|apply below_alloc|apply pw_below_drewN|apply below_drew1)|exact HB.out)) hb);clear HB;have HB:=n0_;clear n0_;(try clear hb);(try clear hb2);(try clear hk);(try clear hi)))
  go_ret2
  exact ⟨by first|rfl|(simp [errW_none,errW_some] <;> rfl)|(simp [*,errW_none,errW_some] <;> rfl),by repeat (first|(with_reducible first|exact HB.out|apply below_alloc|apply pw_below_drewN|apply below_drew1)|exact HB.out)⟩
end Go.Proofs.Ytelcaepenfjloaa.Print
/-! #### Pr76 -/
namespace Go.Proofs.Ytelcaepenfjloaa.Print
open Go.RowKit Go.Proofs.YtelcaepenfjloaaW.PrintWords Go.Proofs.YtelcaepenfjloaaW.PrintLast Go.Proofs.YtelcaepenfjloaaW.PrintMore
attribute [local go_sem] max2_int min2_int max_two min_two max_three min_three max_four min_four
set_option linter.unusedVariables false
set_option linter.unusedSimpArgs false
/-! ### mosaicref03_Fold: function 76 -/
def mosaicref03_Fold.f (k:Nat) (a0:Int) (a1:Int) (a2:ByteArray) (l3:List ByteArray):Option (ByteArray×Int):=(mosaicref03_folds.f k a0 a1 a2 l3).bind fun t642=>(if t642=0 then ((mosaicref03_climb.f k a0 a1 a2 l3).bind fun bt643=>(some (bt643.1,0))) else (some ((⟨#[]⟩:ByteArray),t642)))
theorem mosaicref03_Fold.mono:∀ a0 a1 a2 a3 k,LeO (mosaicref03_Fold.f k a0 a1 a2 a3) (mosaicref03_Fold.f (k+1) a0 a1 a2 a3):=by
 intro a0 a1 a2 a3 k
 unfold mosaicref03_Fold.f
 repeat' first
   | (with_reducible exact mosaicref03_climb.mono _ _ _ _ _)
   | (with_reducible exact mosaicref03_folds.mono _ _ _ _ _)
   | (with_reducible exact LeO.refl _)
   | (with_reducible exact LeO.none _)
   | (with_reducible refine LeO.ite ?_ ?_)
   | (with_reducible refine LeO.bind ?_ (fun _=>?_))
   | exact mosaicref03_climb.mono _ _ _ _ _
   | exact mosaicref03_folds.mono _ _ _ _ _
   | exact LeO.none _
   | refine LeO.ite ?_ ?_
   | refine LeO.bind ?_ (fun _=>?_)
set_option maxHeartbeats 8000000 in
set_option maxRecDepth 100000 in
theorem mosaicref03_Fold.calls (k:Nat) (a0:Int) (a1:Int) (a2:ByteArray) (A3:Option Addr) (c3:Nat) (l3:List ByteArray) (r1:ByteArray) (r2:Int) (w:World) (hr3:Kd.C Kd.string w A3 l3.length l3) (hc3:l3.length≤c3) (h:mosaicref03_Fold.f k a0 a1 a2 l3=some (r1,r2)) :
  Calls Try.prog 76 #[.int .i64 a0,.int .i64 a1,.string a2,.slice A3 l3.length c3] w fun e w'=>e=.returned (.tuple #[.string r1,.int .i64 r2])∧Below w.heap.size w w':=by
 have hfd142_0:∀ (y0_ y1_:Value) (W:World),(Instr.field 142 (.agg #[y0_,y1_]) 0).run Try.prog W=.ok (y0_) W:=fun y0_ y1_ W=>by kernel_rfl
 have HR3:=Aside0.mk hr3
 have HC3:=Aside0.mk hc3
 clear hr3 hc3
 have HB:=Aside0.mk (Below.refl w.heap.size w)
 have H:((mosaicref03_folds.f k a0 a1 a2 l3).bind fun t642=>(if t642=0 then ((mosaicref03_climb.f k a0 a1 a2 l3).bind fun bt643=>(some (bt643.1,0))) else (some ((⟨#[]⟩:ByteArray),t642))))=some (r1,r2):=h
 clear h
 replace H:=Option.bind_eq_some_iff.mp H
 obtain ⟨t642,A50,H⟩:=H
 replace H:(if t642=0 then ((mosaicref03_climb.f k a0 a1 a2 l3).bind fun bt643=>(some (bt643.1,0))) else (some ((⟨#[]⟩:ByteArray),t642)))=some (r1,r2):=H
 have A5:=Aside0.mk A50
 clear A50
 by_cases c6:t642=0
 ·
  rw [if_pos c6] at H
  have c6b0:(t642 == 0)=true:=beq_iff_eq.mpr c6
  have c6b1:(t642 != 0)=false:=bne_eq_false_iff_eq.mpr c6
  clear c6
  replace H:=Option.bind_eq_some_iff.mp H
  obtain ⟨⟨t643,t644⟩,A70,H⟩:=H
  replace H:(some (t643,0))=some (r1,r2):=H
  have A7:=Aside0.mk A70
  clear A70
  simp only [Option.some.injEq,Prod.mk.injEq] at H
  obtain ⟨rfl,rfl⟩:=H
  go_enter Try.func76,Try.ntmps76
  go_wp2_with (first|((with_reducible refine gate_callee (f:=111) rfl ?_);refine goesL_ (some 15) rfl rfl Try.func111 (by kernel_rfl) rfl #[.int .i64 a0,.int .i64 a1,.string a2,.slice A3 l3.length c3] rfl (by (try simp only [List.map_toArray,List.map_cons,List.map_nil]);first|done|rfl|(simp only [List.length_drop,List.length_take];rfl)) ?_;(with_reducible refine (mosaicref03_folds.calls k a0 a1 a2 _ _ l3 t642 _ ?side1 ?side2 A5.out).mono ?_);(case side1=>repeat (first|exact HR3.out|(with_reducible refine Kd.C_alloc ?_ _)|(with_reducible refine Kd.C_drewN ?_ _)|(with_reducible refine Kd.C_drew ?_)));(case side2=>exact HC3.out);rintro e w' ⟨rfl,⟨nd,rfl⟩⟩;refine ⟨_,rfl,?_⟩)|((with_reducible refine gate_callee (f:=112) rfl ?_);refine goesL_ (some 23) rfl rfl Try.func112 (by kernel_rfl) rfl #[.int .i64 a0,.int .i64 a1,.string a2,.slice A3 l3.length c3] rfl (by (try simp only [List.map_toArray,List.map_cons,List.map_nil]);first|done|rfl|(simp only [List.length_drop,List.length_take];rfl)) ?_;(with_reducible refine (mosaicref03_climb.calls k a0 a1 a2 _ _ l3 t643 t644 _ ?side1 ?side2 A7.out).mono ?_);(case side1=>repeat (first|exact HR3.out|(with_reducible refine Kd.C_alloc ?_ _)|(with_reducible refine Kd.C_drewN ?_ _)|(with_reducible refine Kd.C_drew ?_)));(case side2=>exact HC3.out);rintro e w8 ⟨v645,rfl,ho0,hb⟩;refine ⟨_,rfl,?_⟩;have n0_:=Aside0.mk (Kd.R_lower ho0 (below_size (by repeat (first|(with_reducible first|exact HB.out|apply below_alloc|apply pw_below_drewN|apply below_drew1)|exact HB.out))));have n1_:=Aside0.mk (below_step (by repeat (first|(with_reducible first|exact HB.out|apply below_alloc|apply pw_below_drewN|apply below_drew1)|exact HB.out)) hb);clear HB;have HO646:=n0_;have HB:=n1_;clear n0_ n1_;(try clear hb);(try clear hb2);(try clear hk);(try clear hi);(try clear ho0)))
  go_ret2
  exact ⟨by first|rfl|(simp [errW_none,errW_some] <;> rfl)|(simp [*,errW_none,errW_some] <;> rfl),by repeat (first|(with_reducible first|exact HB.out|apply below_alloc|apply pw_below_drewN|apply below_drew1)|exact HB.out)⟩
 ·
  rw [if_neg c6] at H
  have c6b0:(t642 == 0)=false:=beq_eq_false_iff_ne.mpr c6
  have c6b1:(t642 != 0)=true:=bne_iff_ne.mpr c6
  simp only [Option.some.injEq,Prod.mk.injEq] at H
  obtain ⟨rfl,rfl⟩:=H
  go_enter Try.func76,Try.ntmps76
  go_wp2_with (first|((with_reducible refine gate_callee (f:=111) rfl ?_);refine goesL_ (some 15) rfl rfl Try.func111 (by kernel_rfl) rfl #[.int .i64 a0,.int .i64 a1,.string a2,.slice A3 l3.length c3] rfl (by (try simp only [List.map_toArray,List.map_cons,List.map_nil]);first|done|rfl|(simp only [List.length_drop,List.length_take];rfl)) ?_;(with_reducible refine (mosaicref03_folds.calls k a0 a1 a2 _ _ l3 t642 _ ?side1 ?side2 A5.out).mono ?_);(case side1=>repeat (first|exact HR3.out|(with_reducible refine Kd.C_alloc ?_ _)|(with_reducible refine Kd.C_drewN ?_ _)|(with_reducible refine Kd.C_drew ?_)));(case side2=>exact HC3.out);rintro e w' ⟨rfl,⟨nd,rfl⟩⟩;refine ⟨_,rfl,?_⟩))
  go_ret2
  exact ⟨by first|rfl|(simp [errW_none,errW_some] <;> rfl)|(simp [*,errW_none,errW_some] <;> rfl),by repeat (first|(with_reducible first|exact HB.out|apply below_alloc|apply pw_below_drewN|apply below_drew1)|exact HB.out)⟩
end Go.Proofs.Ytelcaepenfjloaa.Print
/-! #### Pr77 -/
namespace Go.Proofs.Ytelcaepenfjloaa.Print
open Go.RowKit Go.Proofs.YtelcaepenfjloaaW.PrintWords Go.Proofs.YtelcaepenfjloaaW.PrintLast Go.Proofs.YtelcaepenfjloaaW.PrintMore
attribute [local go_sem] max2_int min2_int max_two min_two max_three min_three max_four min_four
set_option linter.unusedVariables false
set_option linter.unusedSimpArgs false
/-! ### merkle_Climb: function 77 -/
def merkle_Climb.f (k:Nat) (a0:Int) (a1:Int) (a2:ByteArray) (l3:List ByteArray):Option (List ByteArray):=(merkle_folds.f a0 a1 a2 l3).bind fun t647=>(if t647=0 then ((merkle_climb.f k a0 a1 a2 l3).bind fun bt648=>(some bt648.2)) else (some ([]:List ByteArray)))
theorem merkle_Climb.mono:∀ a0 a1 a2 a3 k,LeO (merkle_Climb.f k a0 a1 a2 a3) (merkle_Climb.f (k+1) a0 a1 a2 a3):=by
 intro a0 a1 a2 a3 k
 unfold merkle_Climb.f
 repeat' first
   | (with_reducible exact merkle_climb.mono _ _ _ _ _)
   | (with_reducible exact LeO.refl _)
   | (with_reducible exact LeO.none _)
   | (with_reducible refine LeO.ite ?_ ?_)
   | (with_reducible refine LeO.bind ?_ (fun _=>?_))
   | exact merkle_climb.mono _ _ _ _ _
   | exact LeO.none _
   | refine LeO.ite ?_ ?_
   | refine LeO.bind ?_ (fun _=>?_)
set_option maxHeartbeats 8000000 in
set_option maxRecDepth 100000 in
theorem merkle_Climb.calls (k:Nat) (a0:Int) (a1:Int) (a2:ByteArray) (A3:Option Addr) (c3:Nat) (l3:List ByteArray) (r:List ByteArray) (w:World) (hr3:Kd.C Kd.string w A3 l3.length l3) (hc3:l3.length≤c3) (h:merkle_Climb.f k a0 a1 a2 l3=some r) :
  Calls Try.prog 77 #[.int .i64 a0,.int .i64 a1,.string a2,.slice A3 l3.length c3] w fun e w'=>∃ v0_:Value,e=.returned (v0_)∧Kd.R Kd.string 9 w' w.heap.size (fun _=>True) v0_ r∧Below w.heap.size w w':=by
 have HR3:=Aside0.mk hr3
 have HC3:=Aside0.mk hc3
 clear hr3 hc3
 have HB:=Aside0.mk (Below.refl w.heap.size w)
 have H:((merkle_folds.f a0 a1 a2 l3).bind fun t647=>(if t647=0 then ((merkle_climb.f k a0 a1 a2 l3).bind fun bt648=>(some bt648.2)) else (some ([]:List ByteArray))))=some r:=h
 clear h
 replace H:=Option.bind_eq_some_iff.mp H
 obtain ⟨t647,A50,H⟩:=H
 replace H:(if t647=0 then ((merkle_climb.f k a0 a1 a2 l3).bind fun bt648=>(some bt648.2)) else (some ([]:List ByteArray)))=some r:=H
 have A5:=Aside0.mk A50
 clear A50
 by_cases c6:t647=0
 ·
  rw [if_pos c6] at H
  have c6b0:(t647 == 0)=true:=beq_iff_eq.mpr c6
  have c6b1:(t647 != 0)=false:=bne_eq_false_iff_eq.mpr c6
  clear c6
  replace H:=Option.bind_eq_some_iff.mp H
  obtain ⟨⟨t648,t649⟩,A70,H⟩:=H
  replace H:(some t649)=some r:=H
  have A7:=Aside0.mk A70
  clear A70
  obtain rfl:=Option.some.inj H
  go_enter Try.func77,Try.ntmps77
  go_wp2_with (first|((with_reducible refine gate_callee (f:=109) rfl ?_);refine goesL_ (some 15) rfl rfl Try.func109 (by kernel_rfl) rfl #[.int .i64 a0,.int .i64 a1,.string a2,.slice A3 l3.length c3] rfl (by (try simp only [List.map_toArray,List.map_cons,List.map_nil]);first|done|rfl|(simp only [List.length_drop,List.length_take];rfl)) ?_;(with_reducible refine (merkle_folds.calls a0 a1 a2 _ _ l3 t647 _ ?side1 ?side2 A5.out).mono ?_);(case side1=>repeat (first|exact HR3.out|(with_reducible refine Kd.C_alloc ?_ _)|(with_reducible refine Kd.C_drewN ?_ _)|(with_reducible refine Kd.C_drew ?_)));(case side2=>exact HC3.out);rintro e w8 ⟨rfl,hb⟩;refine ⟨_,rfl,?_⟩;have n0_:=Aside0.mk (below_step (by repeat (first|(with_reducible first|exact HB.out|apply below_alloc|apply pw_below_drewN|apply below_drew1)|exact HB.out)) hb);clear HB;have HB:=n0_;clear n0_;(try clear hb);(try clear hb2);(try clear hk);(try clear hi))|((with_reducible refine gate_callee (f:=110) rfl ?_);refine goesL_ (some 22) rfl rfl Try.func110 (by kernel_rfl) rfl #[.int .i64 a0,.int .i64 a1,.string a2,.slice A3 l3.length c3] rfl (by (try simp only [List.map_toArray,List.map_cons,List.map_nil]);first|done|rfl|(simp only [List.length_drop,List.length_take];rfl)) ?_;(with_reducible refine (merkle_climb.calls k a0 a1 a2 (fun k_=>k_ < w.heap.size) _ _ l3 t648 t649 _ ?side1 A7.out).mono ?_);(case side1=>exact Kd.V_mk HC3.out (Kd.F_below (Kd.C_F Kd.heap_string HR3.out) (by repeat (first|(with_reducible first|exact HB.out|apply below_alloc|apply pw_below_drewN|apply below_drew1)|exact HB.out))));rintro e w9 ⟨v650,rfl,ho0,hb⟩;refine ⟨_,rfl,?_⟩;have n0_:=Aside0.mk (Kd.R_lower (Kd.R_mono (ok':=fun k_=>True) ho0 (fun _ hk_=>trivial)) (below_size (by repeat (first|(with_reducible first|exact HB.out|apply below_alloc|apply pw_below_drewN|apply below_drew1)|exact HB.out))));have n1_:=Aside0.mk (below_step (by repeat (first|(with_reducible first|exact HB.out|apply below_alloc|apply pw_below_drewN|apply below_drew1)|exact HB.out)) hb);clear HB;have HO651:=n0_;have HB:=n1_;clear n0_ n1_;(try clear hb);(try clear hb2);(try clear hk);(try clear hi);(try clear ho0)))
  go_ret
  exact ⟨_,by first|rfl|(simp [errW_none,errW_some] <;> rfl)|(simp [*,errW_none,errW_some] <;> rfl),by (with_reducible repeat (first|apply Kd.R_alloc|apply Kd.R_drewN|apply Kd.R_drew));exact HO651.out,by repeat (first|(with_reducible first|exact HB.out|apply below_alloc|apply pw_below_drewN|apply below_drew1)|exact HB.out)⟩
 ·
  rw [if_neg c6] at H
  have c6b0:(t647 == 0)=false:=beq_eq_false_iff_ne.mpr c6
  have c6b1:(t647 != 0)=true:=bne_iff_ne.mpr c6
  obtain rfl:=Option.some.inj H
  go_enter Try.func77,Try.ntmps77
  go_wp2_with (first|((with_reducible refine gate_callee (f:=109) rfl ?_);refine goesL_ (some 15) rfl rfl Try.func109 (by kernel_rfl) rfl #[.int .i64 a0,.int .i64 a1,.string a2,.slice A3 l3.length c3] rfl (by (try simp only [List.map_toArray,List.map_cons,List.map_nil]);first|done|rfl|(simp only [List.length_drop,List.length_take];rfl)) ?_;(with_reducible refine (merkle_folds.calls a0 a1 a2 _ _ l3 t647 _ ?side1 ?side2 A5.out).mono ?_);(case side1=>repeat (first|exact HR3.out|(with_reducible refine Kd.C_alloc ?_ _)|(with_reducible refine Kd.C_drewN ?_ _)|(with_reducible refine Kd.C_drew ?_)));(case side2=>exact HC3.out);rintro e w10 ⟨rfl,hb⟩;refine ⟨_,rfl,?_⟩;have n0_:=Aside0.mk (below_step (by repeat (first|(with_reducible first|exact HB.out|apply below_alloc|apply pw_below_drewN|apply below_drew1)|exact HB.out)) hb);clear HB;have HB:=n0_;clear n0_;(try clear hb);(try clear hb2);(try clear hk);(try clear hi)))
  go_ret
  exact ⟨_,by first|rfl|(simp [errW_none,errW_some] <;> rfl)|(simp [*,errW_none,errW_some] <;> rfl),by first|exact Kd.R_nil _ _ _ _ _|exact Kd.N_nil _ _ _ _ _|exact Kd.V_nil _ _ _ _ _|exact Kd.Q_nil _ _ _ _ _|exact Kd.S_nil _ _ _ _ _,by repeat (first|(with_reducible first|exact HB.out|apply below_alloc|apply pw_below_drewN|apply below_drew1)|exact HB.out)⟩
end Go.Proofs.Ytelcaepenfjloaa.Print
/-! #### Pr78 -/
namespace Go.Proofs.Ytelcaepenfjloaa.Print
open Go.RowKit Go.Proofs.YtelcaepenfjloaaW.PrintWords Go.Proofs.YtelcaepenfjloaaW.PrintLast Go.Proofs.YtelcaepenfjloaaW.PrintMore
attribute [local go_sem] max2_int min2_int max_two min_two max_three min_three max_four min_four
set_option linter.unusedVariables false
set_option linter.unusedSimpArgs false
/-! ### mosaicref03_Climb: function 78 -/
def mosaicref03_Climb.f (k:Nat) (a0:Int) (a1:Int) (a2:ByteArray) (l3:List ByteArray):Option (List ByteArray):=(mosaicref03_folds.f k a0 a1 a2 l3).bind fun t652=>(if t652=0 then ((mosaicref03_climb.f k a0 a1 a2 l3).bind fun bt653=>(some bt653.2)) else (some ([]:List ByteArray)))
theorem mosaicref03_Climb.mono:∀ a0 a1 a2 a3 k,LeO (mosaicref03_Climb.f k a0 a1 a2 a3) (mosaicref03_Climb.f (k+1) a0 a1 a2 a3):=by
 intro a0 a1 a2 a3 k
 unfold mosaicref03_Climb.f
 repeat' first
   | (with_reducible exact mosaicref03_climb.mono _ _ _ _ _)
   | (with_reducible exact mosaicref03_folds.mono _ _ _ _ _)
   | (with_reducible exact LeO.refl _)
   | (with_reducible exact LeO.none _)
   | (with_reducible refine LeO.ite ?_ ?_)
   | (with_reducible refine LeO.bind ?_ (fun _=>?_))
   | exact mosaicref03_climb.mono _ _ _ _ _
   | exact mosaicref03_folds.mono _ _ _ _ _
   | exact LeO.none _
   | refine LeO.ite ?_ ?_
   | refine LeO.bind ?_ (fun _=>?_)
set_option maxHeartbeats 8000000 in
set_option maxRecDepth 100000 in
theorem mosaicref03_Climb.calls (k:Nat) (a0:Int) (a1:Int) (a2:ByteArray) (A3:Option Addr) (c3:Nat) (l3:List ByteArray) (r:List ByteArray) (w:World) (hr3:Kd.C Kd.string w A3 l3.length l3) (hc3:l3.length≤c3) (h:mosaicref03_Climb.f k a0 a1 a2 l3=some r) :
  Calls Try.prog 78 #[.int .i64 a0,.int .i64 a1,.string a2,.slice A3 l3.length c3] w fun e w'=>∃ v0_:Value,e=.returned (v0_)∧Kd.R Kd.string 9 w' w.heap.size (fun _=>True) v0_ r∧Below w.heap.size w w':=by
 have hfd142_1:∀ (y0_ y1_:Value) (W:World),(Instr.field 142 (.agg #[y0_,y1_]) 1).run Try.prog W=.ok (y1_) W:=fun y0_ y1_ W=>by kernel_rfl
 have HR3:=Aside0.mk hr3
 have HC3:=Aside0.mk hc3
 clear hr3 hc3
 have HB:=Aside0.mk (Below.refl w.heap.size w)
 have H:((mosaicref03_folds.f k a0 a1 a2 l3).bind fun t652=>(if t652=0 then ((mosaicref03_climb.f k a0 a1 a2 l3).bind fun bt653=>(some bt653.2)) else (some ([]:List ByteArray))))=some r:=h
 clear h
 replace H:=Option.bind_eq_some_iff.mp H
 obtain ⟨t652,A50,H⟩:=H
 replace H:(if t652=0 then ((mosaicref03_climb.f k a0 a1 a2 l3).bind fun bt653=>(some bt653.2)) else (some ([]:List ByteArray)))=some r:=H
 have A5:=Aside0.mk A50
 clear A50
 by_cases c6:t652=0
 ·
  rw [if_pos c6] at H
  have c6b0:(t652 == 0)=true:=beq_iff_eq.mpr c6
  have c6b1:(t652 != 0)=false:=bne_eq_false_iff_eq.mpr c6
  clear c6
  replace H:=Option.bind_eq_some_iff.mp H
  obtain ⟨⟨t653,t654⟩,A70,H⟩:=H
  replace H:(some t654)=some r:=H
  have A7:=Aside0.mk A70
  clear A70
  obtain rfl:=Option.some.inj H
  go_enter Try.func78,Try.ntmps78
  go_wp2_with (first|((with_reducible refine gate_callee (f:=111) rfl ?_);refine goesL_ (some 13) rfl rfl Try.func111 (by kernel_rfl) rfl #[.int .i64 a0,.int .i64 a1,.string a2,.slice A3 l3.length c3] rfl (by (try simp only [List.map_toArray,List.map_cons,List.map_nil]);first|done|rfl|(simp only [List.length_drop,List.length_take];rfl)) ?_;(with_reducible refine (mosaicref03_folds.calls k a0 a1 a2 _ _ l3 t652 _ ?side1 ?side2 A5.out).mono ?_);(case side1=>repeat (first|exact HR3.out|(with_reducible refine Kd.C_alloc ?_ _)|(with_reducible refine Kd.C_drewN ?_ _)|(with_reducible refine Kd.C_drew ?_)));(case side2=>exact HC3.out);rintro e w' ⟨rfl,⟨nd,rfl⟩⟩;refine ⟨_,rfl,?_⟩)|((with_reducible refine gate_callee (f:=112) rfl ?_);refine goesL_ (some 19) rfl rfl Try.func112 (by kernel_rfl) rfl #[.int .i64 a0,.int .i64 a1,.string a2,.slice A3 l3.length c3] rfl (by (try simp only [List.map_toArray,List.map_cons,List.map_nil]);first|done|rfl|(simp only [List.length_drop,List.length_take];rfl)) ?_;(with_reducible refine (mosaicref03_climb.calls k a0 a1 a2 _ _ l3 t653 t654 _ ?side1 ?side2 A7.out).mono ?_);(case side1=>repeat (first|exact HR3.out|(with_reducible refine Kd.C_alloc ?_ _)|(with_reducible refine Kd.C_drewN ?_ _)|(with_reducible refine Kd.C_drew ?_)));(case side2=>exact HC3.out);rintro e w8 ⟨v655,rfl,ho0,hb⟩;refine ⟨_,rfl,?_⟩;have n0_:=Aside0.mk (Kd.R_lower ho0 (below_size (by repeat (first|(with_reducible first|exact HB.out|apply below_alloc|apply pw_below_drewN|apply below_drew1)|exact HB.out))));have n1_:=Aside0.mk (below_step (by repeat (first|(with_reducible first|exact HB.out|apply below_alloc|apply pw_below_drewN|apply below_drew1)|exact HB.out)) hb);clear HB;have HO656:=n0_;have HB:=n1_;clear n0_ n1_;(try clear hb);(try clear hb2);(try clear hk);(try clear hi);(try clear ho0)))
  go_ret
  exact ⟨_,by first|rfl|(simp [errW_none,errW_some] <;> rfl)|(simp [*,errW_none,errW_some] <;> rfl),by (with_reducible repeat (first|apply Kd.R_alloc|apply Kd.R_drewN|apply Kd.R_drew));exact HO656.out,by repeat (first|(with_reducible first|exact HB.out|apply below_alloc|apply pw_below_drewN|apply below_drew1)|exact HB.out)⟩
 ·
  rw [if_neg c6] at H
  have c6b0:(t652 == 0)=false:=beq_eq_false_iff_ne.mpr c6
  have c6b1:(t652 != 0)=true:=bne_iff_ne.mpr c6
  obtain rfl:=Option.some.inj H
  go_enter Try.func78,Try.ntmps78
  go_wp2_with (first|((with_reducible refine gate_callee (f:=111) rfl ?_);refine goesL_ (some 13) rfl rfl Try.func111 (by kernel_rfl) rfl #[.int .i64 a0,.int .i64 a1,.string a2,.slice A3 l3.length c3] rfl (by (try simp only [List.map_toArray,List.map_cons,List.map_nil]);first|done|rfl|(simp only [List.length_drop,List.length_take];rfl)) ?_;(with_reducible refine (mosaicref03_folds.calls k a0 a1 a2 _ _ l3 t652 _ ?side1 ?side2 A5.out).mono ?_);(case side1=>repeat (first|exact HR3.out|(with_reducible refine Kd.C_alloc ?_ _)|(with_reducible refine Kd.C_drewN ?_ _)|(with_reducible refine Kd.C_drew ?_)));(case side2=>exact HC3.out);rintro e w' ⟨rfl,⟨nd,rfl⟩⟩;refine ⟨_,rfl,?_⟩))
  go_ret
  exact ⟨_,by first|rfl|(simp [errW_none,errW_some] <;> rfl)|(simp [*,errW_none,errW_some] <;> rfl),by first|exact Kd.R_nil _ _ _ _ _|exact Kd.N_nil _ _ _ _ _|exact Kd.V_nil _ _ _ _ _|exact Kd.Q_nil _ _ _ _ _|exact Kd.S_nil _ _ _ _ _,by repeat (first|(with_reducible first|exact HB.out|apply below_alloc|apply pw_below_drewN|apply below_drew1)|exact HB.out)⟩
end Go.Proofs.Ytelcaepenfjloaa.Print
/-! #### Pr79 -/
namespace Go.Proofs.Ytelcaepenfjloaa.Print
open Go.RowKit Go.Proofs.YtelcaepenfjloaaW.PrintWords Go.Proofs.YtelcaepenfjloaaW.PrintLast Go.Proofs.YtelcaepenfjloaaW.PrintMore
attribute [local go_sem] max2_int min2_int max_two min_two max_three min_three max_four min_four
set_option linter.unusedVariables false
set_option linter.unusedSimpArgs false
/-! ### merkle_Check: function 79 -/
def merkle_Check.f (k:Nat) (a0:ByteArray) (a1:Int) (a2:Int) (a3:ByteArray) (l4:List ByteArray):Option (Bool):=(merkle_Fold.f k a1 a2 a3 l4).bind fun bt657=>(if bt657.2=0 then (some (bt657.1.toList == a0.toList)) else (some false))
theorem merkle_Check.mono:∀ a0 a1 a2 a3 a4 k,LeO (merkle_Check.f k a0 a1 a2 a3 a4) (merkle_Check.f (k+1) a0 a1 a2 a3 a4):=by
 intro a0 a1 a2 a3 a4 k
 unfold merkle_Check.f
 repeat' first
   | (with_reducible exact merkle_Fold.mono _ _ _ _ _)
   | (with_reducible exact LeO.refl _)
   | (with_reducible exact LeO.none _)
   | (with_reducible refine LeO.ite ?_ ?_)
   | (with_reducible refine LeO.bind ?_ (fun _=>?_))
   | exact merkle_Fold.mono _ _ _ _ _
   | exact LeO.none _
   | refine LeO.ite ?_ ?_
   | refine LeO.bind ?_ (fun _=>?_)
set_option maxHeartbeats 8000000 in
set_option maxRecDepth 100000 in
theorem merkle_Check.calls (k:Nat) (a0:ByteArray) (a1:Int) (a2:Int) (a3:ByteArray) (A4:Option Addr) (c4:Nat) (l4:List ByteArray) (r:Bool) (w:World) (hr4:Kd.C Kd.string w A4 l4.length l4) (hc4:l4.length≤c4) (h:merkle_Check.f k a0 a1 a2 a3 l4=some r) :
  Calls Try.prog 79 #[.string a0,.int .i64 a1,.int .i64 a2,.string a3,.slice A4 l4.length c4] w fun e w'=>e=.returned (.bool r)∧Below w.heap.size w w':=by
 have HR4:=Aside0.mk hr4
 have HC4:=Aside0.mk hc4
 clear hr4 hc4
 have HB:=Aside0.mk (Below.refl w.heap.size w)
 have H:((merkle_Fold.f k a1 a2 a3 l4).bind fun bt657=>(if bt657.2=0 then (some (bt657.1.toList == a0.toList)) else (some false)))=some r:=h
 clear h
 replace H:=Option.bind_eq_some_iff.mp H
 obtain ⟨⟨t657,t658⟩,A60,H⟩:=H
 replace H:(if t658=0 then (some (t657.toList == a0.toList)) else (some false))=some r:=H
 have A6:=Aside0.mk A60
 clear A60
 by_cases c7:t658=0
 ·
  rw [if_pos c7] at H
  have c7b0:(t658 == 0)=true:=beq_iff_eq.mpr c7
  have c7b1:(t658 != 0)=false:=bne_eq_false_iff_eq.mpr c7
  clear c7
  obtain rfl:=Option.some.inj H
  go_enter Try.func79,Try.ntmps79
  go_wp2_with (first|((with_reducible refine gate_callee (f:=75) rfl ?_);refine goesL_ (some 18) rfl rfl Try.func75 (by kernel_rfl) rfl #[.int .i64 a1,.int .i64 a2,.string a3,.slice A4 l4.length c4] rfl (by (try simp only [List.map_toArray,List.map_cons,List.map_nil]);first|done|rfl|(simp only [List.length_drop,List.length_take];rfl)) ?_;(with_reducible refine (merkle_Fold.calls k a1 a2 a3 _ _ l4 t657 t658 _ ?side1 ?side2 A6.out).mono ?_);(case side1=>repeat (first|exact HR4.out|(with_reducible refine Kd.C_alloc ?_ _)|(with_reducible refine Kd.C_drewN ?_ _)|(with_reducible refine Kd.C_drew ?_)));(case side2=>exact HC4.out);rintro e w8 ⟨rfl,hb⟩;refine ⟨_,rfl,?_⟩;have n0_:=Aside0.mk (below_step (by repeat (first|(with_reducible first|exact HB.out|apply below_alloc|apply pw_below_drewN|apply below_drew1)|exact HB.out)) hb);clear HB;have HB:=n0_;clear n0_;(try clear hb);(try clear hb2);(try clear hk);(try clear hi)))
  go_ret
  exact ⟨by first|rfl|(simp [errW_none,errW_some] <;> rfl)|(simp [*,errW_none,errW_some] <;> rfl),by repeat (first|(with_reducible first|exact HB.out|apply below_alloc|apply pw_below_drewN|apply below_drew1)|exact HB.out)⟩
 ·
  rw [if_neg c7] at H
  have c7b0:(t658 == 0)=false:=beq_eq_false_iff_ne.mpr c7
  have c7b1:(t658 != 0)=true:=bne_iff_ne.mpr c7
  obtain rfl:=Option.some.inj H
  go_enter Try.func79,Try.ntmps79
  go_wp2_with (first|((with_reducible refine gate_callee (f:=75) rfl ?_);refine goesL_ (some 18) rfl rfl Try.func75 (by kernel_rfl) rfl #[.int .i64 a1,.int .i64 a2,.string a3,.slice A4 l4.length c4] rfl (by (try simp only [List.map_toArray,List.map_cons,List.map_nil]);first|done|rfl|(simp only [List.length_drop,List.length_take];rfl)) ?_;(with_reducible refine (merkle_Fold.calls k a1 a2 a3 _ _ l4 t657 t658 _ ?side1 ?side2 A6.out).mono ?_);(case side1=>repeat (first|exact HR4.out|(with_reducible refine Kd.C_alloc ?_ _)|(with_reducible refine Kd.C_drewN ?_ _)|(with_reducible refine Kd.C_drew ?_)));(case side2=>exact HC4.out);rintro e w9 ⟨rfl,hb⟩;refine ⟨_,rfl,?_⟩;have n0_:=Aside0.mk (below_step (by repeat (first|(with_reducible first|exact HB.out|apply below_alloc|apply pw_below_drewN|apply below_drew1)|exact HB.out)) hb);clear HB;have HB:=n0_;clear n0_;(try clear hb);(try clear hb2);(try clear hk);(try clear hi)))
  go_ret
  exact ⟨by first|rfl|(simp [errW_none,errW_some] <;> rfl)|(simp [*,errW_none,errW_some] <;> rfl),by repeat (first|(with_reducible first|exact HB.out|apply below_alloc|apply pw_below_drewN|apply below_drew1)|exact HB.out)⟩
end Go.Proofs.Ytelcaepenfjloaa.Print
/-! #### Pr80 -/
namespace Go.Proofs.Ytelcaepenfjloaa.Print
open Go.RowKit Go.Proofs.YtelcaepenfjloaaW.PrintWords Go.Proofs.YtelcaepenfjloaaW.PrintLast Go.Proofs.YtelcaepenfjloaaW.PrintMore
attribute [local go_sem] max2_int min2_int max_two min_two max_three min_three max_four min_four
set_option linter.unusedVariables false
set_option linter.unusedSimpArgs false
/-! ### mosaicref03_Check: function 80 -/
def mosaicref03_Check.f (k:Nat) (a0:ByteArray) (a1:Int) (a2:Int) (a3:ByteArray) (l4:List ByteArray):Option (Bool):=(mosaicref03_Fold.f k a1 a2 a3 l4).bind fun bt659=>(if bt659.2=0 then (some (bt659.1.toList == a0.toList)) else (some false))
theorem mosaicref03_Check.mono:∀ a0 a1 a2 a3 a4 k,LeO (mosaicref03_Check.f k a0 a1 a2 a3 a4) (mosaicref03_Check.f (k+1) a0 a1 a2 a3 a4):=by
 intro a0 a1 a2 a3 a4 k
 unfold mosaicref03_Check.f
 repeat' first
   | (with_reducible exact mosaicref03_Fold.mono _ _ _ _ _)
   | (with_reducible exact LeO.refl _)
   | (with_reducible exact LeO.none _)
   | (with_reducible refine LeO.ite ?_ ?_)
   | (with_reducible refine LeO.bind ?_ (fun _=>?_))
   | exact mosaicref03_Fold.mono _ _ _ _ _
   | exact LeO.none _
   | refine LeO.ite ?_ ?_
   | refine LeO.bind ?_ (fun _=>?_)
set_option maxHeartbeats 8000000 in
set_option maxRecDepth 100000 in
theorem mosaicref03_Check.calls (k:Nat) (a0:ByteArray) (a1:Int) (a2:Int) (a3:ByteArray) (A4:Option Addr) (c4:Nat) (l4:List ByteArray) (r:Bool) (w:World) (hr4:Kd.C Kd.string w A4 l4.length l4) (hc4:l4.length≤c4) (h:mosaicref03_Check.f k a0 a1 a2 a3 l4=some r) :
  Calls Try.prog 80 #[.string a0,.int .i64 a1,.int .i64 a2,.string a3,.slice A4 l4.length c4] w fun e w'=>e=.returned (.bool r)∧Below w.heap.size w w':=by
 have HR4:=Aside0.mk hr4
 have HC4:=Aside0.mk hc4
 clear hr4 hc4
 have HB:=Aside0.mk (Below.refl w.heap.size w)
 have H:((mosaicref03_Fold.f k a1 a2 a3 l4).bind fun bt659=>(if bt659.2=0 then (some (bt659.1.toList == a0.toList)) else (some false)))=some r:=h
 clear h
 replace H:=Option.bind_eq_some_iff.mp H
 obtain ⟨⟨t659,t660⟩,A60,H⟩:=H
 replace H:(if t660=0 then (some (t659.toList == a0.toList)) else (some false))=some r:=H
 have A6:=Aside0.mk A60
 clear A60
 by_cases c7:t660=0
 ·
  rw [if_pos c7] at H
  have c7b0:(t660 == 0)=true:=beq_iff_eq.mpr c7
  have c7b1:(t660 != 0)=false:=bne_eq_false_iff_eq.mpr c7
  clear c7
  obtain rfl:=Option.some.inj H
  go_enter Try.func80,Try.ntmps80
  go_wp2_with (first|((with_reducible refine gate_callee (f:=76) rfl ?_);refine goesL_ (some 18) rfl rfl Try.func76 (by kernel_rfl) rfl #[.int .i64 a1,.int .i64 a2,.string a3,.slice A4 l4.length c4] rfl (by (try simp only [List.map_toArray,List.map_cons,List.map_nil]);first|done|rfl|(simp only [List.length_drop,List.length_take];rfl)) ?_;(with_reducible refine (mosaicref03_Fold.calls k a1 a2 a3 _ _ l4 t659 t660 _ ?side1 ?side2 A6.out).mono ?_);(case side1=>repeat (first|exact HR4.out|(with_reducible refine Kd.C_alloc ?_ _)|(with_reducible refine Kd.C_drewN ?_ _)|(with_reducible refine Kd.C_drew ?_)));(case side2=>exact HC4.out);rintro e w8 ⟨rfl,hb⟩;refine ⟨_,rfl,?_⟩;have n0_:=Aside0.mk (below_step (by repeat (first|(with_reducible first|exact HB.out|apply below_alloc|apply pw_below_drewN|apply below_drew1)|exact HB.out)) hb);clear HB;have HB:=n0_;clear n0_;(try clear hb);(try clear hb2);(try clear hk);(try clear hi)))
  go_ret
  exact ⟨by first|rfl|(simp [errW_none,errW_some] <;> rfl)|(simp [*,errW_none,errW_some] <;> rfl),by repeat (first|(with_reducible first|exact HB.out|apply below_alloc|apply pw_below_drewN|apply below_drew1)|exact HB.out)⟩
 ·
  rw [if_neg c7] at H
  have c7b0:(t660 == 0)=false:=beq_eq_false_iff_ne.mpr c7
  have c7b1:(t660 != 0)=true:=bne_iff_ne.mpr c7
  obtain rfl:=Option.some.inj H
  go_enter Try.func80,Try.ntmps80
  go_wp2_with (first|((with_reducible refine gate_callee (f:=76) rfl ?_);refine goesL_ (some 18) rfl rfl Try.func76 (by kernel_rfl) rfl #[.int .i64 a1,.int .i64 a2,.string a3,.slice A4 l4.length c4] rfl (by (try simp only [List.map_toArray,List.map_cons,List.map_nil]);first|done|rfl|(simp only [List.length_drop,List.length_take];rfl)) ?_;(with_reducible refine (mosaicref03_Fold.calls k a1 a2 a3 _ _ l4 t659 t660 _ ?side1 ?side2 A6.out).mono ?_);(case side1=>repeat (first|exact HR4.out|(with_reducible refine Kd.C_alloc ?_ _)|(with_reducible refine Kd.C_drewN ?_ _)|(with_reducible refine Kd.C_drew ?_)));(case side2=>exact HC4.out);rintro e w9 ⟨rfl,hb⟩;refine ⟨_,rfl,?_⟩;have n0_:=Aside0.mk (below_step (by repeat (first|(with_reducible first|exact HB.out|apply below_alloc|apply pw_below_drewN|apply below_drew1)|exact HB.out)) hb);clear HB;have HB:=n0_;clear n0_;(try clear hb);(try clear hb2);(try clear hk);(try clear hi)))
  go_ret
  exact ⟨by first|rfl|(simp [errW_none,errW_some] <;> rfl)|(simp [*,errW_none,errW_some] <;> rfl),by repeat (first|(with_reducible first|exact HB.out|apply below_alloc|apply pw_below_drewN|apply below_drew1)|exact HB.out)⟩
end Go.Proofs.Ytelcaepenfjloaa.Print
