/- The proof of the statement MerkleBinds of the seat, part 5 of 7: the functions that it reaches, as plain functions, with the walks that show it, and what they come to; the last part ends in the row. No condition beyond the statement's own. -/
import Derived.Shelf.Strings.Builder1
import Derived.Lib.Builder
import Derived.IntWalk
import Derived.Laws.BitsLemmas
import Derived.Test.YtelcaepenfjloaaBMerkleBinds1
import Derived.Test.YtelcaepenfjloaaBMerkleBinds2
import Derived.Test.YtelcaepenfjloaaBMerkleBinds3
import Derived.Test.YtelcaepenfjloaaBMerkleBinds4
/-! #### Pr24 -/
namespace Go.Proofs.Ytelcaepenfjloaa.Print
open Go.RowKit Go.Proofs.YtelcaepenfjloaaW.PrintWords Go.Proofs.YtelcaepenfjloaaW.PrintLast Go.Proofs.YtelcaepenfjloaaW.PrintMore
attribute [local go_sem] max2_int min2_int max_two min_two max_three min_three max_four min_four
set_option linter.unusedVariables false
set_option linter.unusedSimpArgs false
/-! ### mosaiclaw03_MerkleBinds: function 24 -/
mutual
def mosaiclaw03_MerkleBinds.j0:Nat→List ByteArray→Int→Bool→ByteArray→List ByteArray→Option (Bool)
 | 0,_,_,_,_,_=>none
 | k+1,x0,x1,x32,x758000,x758001=>if x32=true then ((mosaiclaw03_awake.f k).bind fun t760=>(some t760)) else (if (x0.length:Int)=0 then (none) else ((merkle_Root.f k x0).bind fun bt761=>((mosaiclaw03_awake.f k).bind fun t763=>(if t763=true then (mosaiclaw03_MerkleBinds.j1 k x0 (Int.tmod (wrap64 ((Int.tmod x1 (x0.length:Int))+(x0.length:Int))) (x0.length:Int)) bt761.1 (bt761.2 != 0) x758000 x758001) else (mosaiclaw03_MerkleBinds.j1 k x0 (Int.tmod (wrap64 ((Int.tmod x1 (x0.length:Int))+(x0.length:Int))) (x0.length:Int)) bt761.1 true x758000 x758001)))))
def mosaiclaw03_MerkleBinds.j1:Nat→List ByteArray→Int→ByteArray→Bool→ByteArray→List ByteArray→Option (Bool)
 | 0,_,_,_,_,_,_=>none
 | k+1,x0,x7,x8,x54,x758000,x758001=>if x54=true then (some false) else ((merkle_Leaf.f x758000).bind fun t764=>((merkle_Check.f k x8 (x0.length:Int) x7 t764 x758001).bind fun t765=>(if t765=true then (if 0≤x7 then (if x7 < (x0.length:Int) then (mosaiclaw03_MerkleBinds.j2 k x0 x7 (x758000.toList == (rdOf ByteArray.empty x0 x7).toList) x758000 x758001) else (none)) else (none)) else (mosaiclaw03_MerkleBinds.j2 k x0 x7 true x758000 x758001))))
def mosaiclaw03_MerkleBinds.j2:Nat→List ByteArray→Int→Bool→ByteArray→List ByteArray→Option (Bool)
 | 0,_,_,_,_,_=>none
 | k+1,x0,x7,x74,x758000,x758001=>if x74=true then (some true) else ((merkle_Texts.f k x0).bind fun t767=>((merkle_Road.f k (x0.length:Int) x7 x758000 x758001).bind fun t770=>(if t767.length+t770.length < 8796093022208 then ((merkle_Witness.f k (t767 ++ t770)).bind fun bt776=>(if bt776.2.2=true then (if bt776.1.toList=bt776.2.1.toList then (some false) else ((mosaicref01_Sum.f k bt776.1).bind fun t779=>((mosaicref01_Sum.f k bt776.2.1).bind fun t780=>(some (t779.toList == t780.toList))))) else (some false))) else (none))))
end
def mosaiclaw03_MerkleBinds.f (k:Nat) (l0:List ByteArray) (a1:Int) (a2_0:ByteArray) (l2_1:List ByteArray):Option (Bool):=(mosaiclaw03_few.f k l0 20 1024).bind fun t758=>(if t758=true then (if (l0.length:Int)=0 then (mosaiclaw03_MerkleBinds.j0 k l0 a1 true a2_0 l2_1) else (if (a2_0.size:Int) > 1024 then (mosaiclaw03_MerkleBinds.j0 k l0 a1 true a2_0 l2_1) else ((mosaiclaw03_few.f k l2_1 12 100).bind fun t759=>(mosaiclaw03_MerkleBinds.j0 k l0 a1 (!t759) a2_0 l2_1)))) else (mosaiclaw03_MerkleBinds.j0 k l0 a1 true a2_0 l2_1))
theorem mosaiclaw03_MerkleBinds.mono_l:∀ k,(∀ y0 y1 y2 y3 y4,LeO (mosaiclaw03_MerkleBinds.j0 k y0 y1 y2 y3 y4) (mosaiclaw03_MerkleBinds.j0 (k+1) y0 y1 y2 y3 y4))∧(∀ y0 y1 y2 y3 y4 y5,LeO (mosaiclaw03_MerkleBinds.j1 k y0 y1 y2 y3 y4 y5) (mosaiclaw03_MerkleBinds.j1 (k+1) y0 y1 y2 y3 y4 y5))∧(∀ y0 y1 y2 y3 y4,LeO (mosaiclaw03_MerkleBinds.j2 k y0 y1 y2 y3 y4) (mosaiclaw03_MerkleBinds.j2 (k+1) y0 y1 y2 y3 y4))
 | 0=>⟨fun _ _ _ _ _ r h=>by simp [mosaiclaw03_MerkleBinds.j0] at h,fun _ _ _ _ _ _ r h=>by simp [mosaiclaw03_MerkleBinds.j1] at h,fun _ _ _ _ _ r h=>by simp [mosaiclaw03_MerkleBinds.j2] at h⟩
 | k+1=>by
  obtain ⟨ih0,ih1,ih2⟩:=mosaiclaw03_MerkleBinds.mono_l k
  refine ⟨?_,?_,?_⟩
  ·
   intro y0 y1 y2 y3 y4
   unfold mosaiclaw03_MerkleBinds.j0
   repeat' first
   | (with_reducible exact ih0 _ _ _ _ _)
   | (with_reducible exact ih1 _ _ _ _ _ _)
   | (with_reducible exact ih2 _ _ _ _ _)
   | (with_reducible exact merkle_Check.mono _ _ _ _ _ _)
   | (with_reducible exact merkle_Road.mono _ _ _ _ _)
   | (with_reducible exact merkle_Root.mono _ _)
   | (with_reducible exact merkle_Texts.mono _ _)
   | (with_reducible exact merkle_Witness.mono _ _)
   | (with_reducible exact mosaiclaw03_awake.mono _)
   | (with_reducible exact mosaiclaw03_few.mono _ _ _ _)
   | (with_reducible exact mosaicref01_Sum.mono _ _)
   | (with_reducible exact LeO.refl _)
   | (with_reducible exact LeO.none _)
   | (with_reducible refine LeO.ite ?_ ?_)
   | (with_reducible refine LeO.bind ?_ (fun _=>?_))
   | exact ih0 _ _ _ _ _
   | exact ih1 _ _ _ _ _ _
   | exact ih2 _ _ _ _ _
   | exact merkle_Check.mono _ _ _ _ _ _
   | exact merkle_Road.mono _ _ _ _ _
   | exact merkle_Root.mono _ _
   | exact merkle_Texts.mono _ _
   | exact merkle_Witness.mono _ _
   | exact mosaiclaw03_awake.mono _
   | exact mosaiclaw03_few.mono _ _ _ _
   | exact mosaicref01_Sum.mono _ _
   | exact LeO.none _
   | refine LeO.ite ?_ ?_
   | refine LeO.bind ?_ (fun _=>?_)
  ·
   intro y0 y1 y2 y3 y4 y5
   unfold mosaiclaw03_MerkleBinds.j1
   repeat' first
   | (with_reducible exact ih0 _ _ _ _ _)
   | (with_reducible exact ih1 _ _ _ _ _ _)
   | (with_reducible exact ih2 _ _ _ _ _)
   | (with_reducible exact merkle_Check.mono _ _ _ _ _ _)
   | (with_reducible exact merkle_Road.mono _ _ _ _ _)
   | (with_reducible exact merkle_Root.mono _ _)
   | (with_reducible exact merkle_Texts.mono _ _)
   | (with_reducible exact merkle_Witness.mono _ _)
   | (with_reducible exact mosaiclaw03_awake.mono _)
   | (with_reducible exact mosaiclaw03_few.mono _ _ _ _)
   | (with_reducible exact mosaicref01_Sum.mono _ _)
   | (with_reducible exact LeO.refl _)
   | (with_reducible exact LeO.none _)
   | (with_reducible refine LeO.ite ?_ ?_)
   | (with_reducible refine LeO.bind ?_ (fun _=>?_))
   | exact ih0 _ _ _ _ _
   | exact ih1 _ _ _ _ _ _
   | exact ih2 _ _ _ _ _
   | exact merkle_Check.mono _ _ _ _ _ _
   | exact merkle_Road.mono _ _ _ _ _
   | exact merkle_Root.mono _ _
   | exact merkle_Texts.mono _ _
   | exact merkle_Witness.mono _ _
   | exact mosaiclaw03_awake.mono _
   | exact mosaiclaw03_few.mono _ _ _ _
   | exact mosaicref01_Sum.mono _ _
   | exact LeO.none _
   | refine LeO.ite ?_ ?_
   | refine LeO.bind ?_ (fun _=>?_)
  ·
   intro y0 y1 y2 y3 y4
   unfold mosaiclaw03_MerkleBinds.j2
   repeat' first
   | (with_reducible exact ih0 _ _ _ _ _)
   | (with_reducible exact ih1 _ _ _ _ _ _)
   | (with_reducible exact ih2 _ _ _ _ _)
   | (with_reducible exact merkle_Check.mono _ _ _ _ _ _)
   | (with_reducible exact merkle_Road.mono _ _ _ _ _)
   | (with_reducible exact merkle_Root.mono _ _)
   | (with_reducible exact merkle_Texts.mono _ _)
   | (with_reducible exact merkle_Witness.mono _ _)
   | (with_reducible exact mosaiclaw03_awake.mono _)
   | (with_reducible exact mosaiclaw03_few.mono _ _ _ _)
   | (with_reducible exact mosaicref01_Sum.mono _ _)
   | (with_reducible exact LeO.refl _)
   | (with_reducible exact LeO.none _)
   | (with_reducible refine LeO.ite ?_ ?_)
   | (with_reducible refine LeO.bind ?_ (fun _=>?_))
   | exact ih0 _ _ _ _ _
   | exact ih1 _ _ _ _ _ _
   | exact ih2 _ _ _ _ _
   | exact merkle_Check.mono _ _ _ _ _ _
   | exact merkle_Road.mono _ _ _ _ _
   | exact merkle_Root.mono _ _
   | exact merkle_Texts.mono _ _
   | exact merkle_Witness.mono _ _
   | exact mosaiclaw03_awake.mono _
   | exact mosaiclaw03_few.mono _ _ _ _
   | exact mosaicref01_Sum.mono _ _
   | exact LeO.none _
   | refine LeO.ite ?_ ?_
   | refine LeO.bind ?_ (fun _=>?_)
theorem mosaiclaw03_MerkleBinds.mono:∀ a0 a1 a2 a3 k,LeO (mosaiclaw03_MerkleBinds.f k a0 a1 a2 a3) (mosaiclaw03_MerkleBinds.f (k+1) a0 a1 a2 a3):=by
 intro a0 a1 a2 a3 k
 obtain ⟨ih0,ih1,ih2⟩:=mosaiclaw03_MerkleBinds.mono_l k
 unfold mosaiclaw03_MerkleBinds.f
 repeat' first
   | (with_reducible exact ih0 _ _ _ _ _)
   | (with_reducible exact ih1 _ _ _ _ _ _)
   | (with_reducible exact ih2 _ _ _ _ _)
   | (with_reducible exact merkle_Check.mono _ _ _ _ _ _)
   | (with_reducible exact merkle_Road.mono _ _ _ _ _)
   | (with_reducible exact merkle_Root.mono _ _)
   | (with_reducible exact merkle_Texts.mono _ _)
   | (with_reducible exact merkle_Witness.mono _ _)
   | (with_reducible exact mosaiclaw03_awake.mono _)
   | (with_reducible exact mosaiclaw03_few.mono _ _ _ _)
   | (with_reducible exact mosaicref01_Sum.mono _ _)
   | (with_reducible exact LeO.refl _)
   | (with_reducible exact LeO.none _)
   | (with_reducible refine LeO.ite ?_ ?_)
   | (with_reducible refine LeO.bind ?_ (fun _=>?_))
   | exact ih0 _ _ _ _ _
   | exact ih1 _ _ _ _ _ _
   | exact ih2 _ _ _ _ _
   | exact merkle_Check.mono _ _ _ _ _ _
   | exact merkle_Road.mono _ _ _ _ _
   | exact merkle_Root.mono _ _
   | exact merkle_Texts.mono _ _
   | exact merkle_Witness.mono _ _
   | exact mosaiclaw03_awake.mono _
   | exact mosaiclaw03_few.mono _ _ _ _
   | exact mosaicref01_Sum.mono _ _
   | exact LeO.none _
   | refine LeO.ite ?_ ?_
   | refine LeO.bind ?_ (fun _=>?_)
def mosaiclaw03_MerkleBinds.T7:Bool×List (List Nat×List Nat):=(true,[([],[]),([],[]),([1],[1]),([],[]),([],[]),([4],[4]),([5],[5]),([],[]),([7],[7]),([0,2,3,6,8,6],[0,2,3,6,8]),([9],[9]),([10,9],[10]),([11],[11]),([12,11],[11,12]),([11],[11]),([11],[11]),([14,15,11],[11,14,15]),([16,11],[11,16]),([13,17,11],[11,13,17]),([11,18],[11,18])])
def mosaiclaw03_MerkleBinds.B7:List Nat:=[0,0,2,0,0,16,48,0,128,511,1023,2047,4095,8191,4095,4095,53247,118783,262143,524287]
theorem mosaiclaw03_MerkleBinds.tab7:rtab .any (opsOf Try.f24 7)=mosaiclaw03_MerkleBinds.T7:=by kernel_rfl
theorem mosaiclaw03_MerkleBinds.bits7:waitsOk mosaiclaw03_MerkleBinds.T7.2 mosaiclaw03_MerkleBinds.B7=true:=by kernel_rfl
def mosaiclaw03_MerkleBinds.T9:Bool×List (List Nat×List Nat):=(true,[([],[]),([0],[0]),([],[]),([2],[2]),([],[]),([],[]),([5],[5]),([],[]),([7],[7]),([3,4,6,8,1],[3,4,6,8]),([1,9,9],[1,9]),([10,10],[10]),([11],[11]),([12],[12]),([12],[12]),([12],[12]),([13,11,0,1,2,3,4,5,6,7,8,9,10,11,12,13],[13]),([14,16,0,1,2,3,4,5,6,7,8,9,10,11,12,13,14,16],[14]),([15,17,0,1,2,3,4,5,6,7,8,9,10,11,12,13,14,15,16,17],[15])])
def mosaiclaw03_MerkleBinds.B9:List Nat:=[0,1,0,4,0,0,32,0,128,511,1023,2047,4095,8191,8191,8191,16383,98303,262143]
theorem mosaiclaw03_MerkleBinds.tab9:rtab .any (opsOf Try.f24 9)=mosaiclaw03_MerkleBinds.T9:=by kernel_rfl
theorem mosaiclaw03_MerkleBinds.bits9:waitsOk mosaiclaw03_MerkleBinds.T9.2 mosaiclaw03_MerkleBinds.B9=true:=by kernel_rfl
set_option maxHeartbeats 8000000 in
set_option maxRecDepth 100000 in
theorem mosaiclaw03_MerkleBinds.callsT (k:Nat) (A0:Option Addr) (c0:Nat) (l0:List ByteArray) (a1:Int) (a2_0:ByteArray) (A2_1:Option Addr) (c2_1:Nat) (l2_1:List ByteArray) (w:World) (hr0:Kd.C Kd.string w A0 l0.length l0) (hc0:l0.length≤c0) (hr2_1:Kd.C Kd.string w A2_1 l2_1.length l2_1) (hc2_1:l2_1.length≤c2_1) (h:mosaiclaw03_MerkleBinds.f k l0 a1 a2_0 l2_1=some true) :
  Calls Try.prog 24 #[.slice A0 l0.length c0,.int .i64 a1,.agg #[.string a2_0,.slice A2_1 l2_1.length c2_1]] w fun e w'=>e=.returned (.bool true)∧Below w.heap.size w w':=by
 have hu109:=Try.underlying109
 have HR0:=Aside0.mk hr0
 have HC0:=Aside0.mk hc0
 clear hr0 hc0
 have HR2_1:=Aside0.mk hr2_1
 have HC2_1:=Aside0.mk hc2_1
 clear hr2_1 hc2_1
 have HB:=Aside0.mk (Below.refl w.heap.size w)
 have H:((mosaiclaw03_few.f k l0 20 1024).bind fun t758=>(if t758=true then (if (l0.length:Int)=0 then (mosaiclaw03_MerkleBinds.j0 k l0 a1 true a2_0 l2_1) else (if (a2_0.size:Int) > 1024 then (mosaiclaw03_MerkleBinds.j0 k l0 a1 true a2_0 l2_1) else ((mosaiclaw03_few.f k l2_1 12 100).bind fun t759=>(mosaiclaw03_MerkleBinds.j0 k l0 a1 (!t759) a2_0 l2_1)))) else (mosaiclaw03_MerkleBinds.j0 k l0 a1 true a2_0 l2_1)))=some true:=h
 clear h
 have HC4:=Aside0.mk H
 clear H
 go_enter Try.func24,Try.ntmps24
 go_upto_region 1 with (first|((with_reducible refine gate_dst (N:=5) rfl ?_);(try (refine gate_guard (by rfl) ?_;dsimp only));refine box_event ?hg (N:=5) ?hd (cs:=#[.string a2_0,.slice A2_1 l2_1.length c2_1]) (t:=109) ?hr ?_;(case hd=>rfl);(case hg=>rfl);(case hr=>first|(go_simp;done)|(go_simp;rfl));intro gb757 hg w5 hbox hb;have n0_:=Aside0.mk (below_step (by repeat (first|(with_reducible first|exact HB.out|apply below_alloc|apply pw_below_drewN|apply below_drew1)|exact HB.out)) hb);have n1_:=Aside0.mk (hbox);have n2_:=Aside0.mk ((by rw [hg];exact (below_size (by repeat (first|(with_reducible first|exact HB.out|apply below_alloc|apply pw_below_drewN|apply below_drew1)|exact HB.out))):w.heap.size≤gb757));have n3_:=Aside0.mk ((by rw [hg];exact (below_size (by repeat (first|(with_reducible first|exact HB.out|apply below_alloc|apply pw_below_drewN|apply below_drew1)|exact HB.out))):w.heap.size≤gb757));clear HB;have HB:=n0_;have BK757:=n1_;have GW757:=n2_;have GE757:=n3_;clear n0_ n1_ n2_ n3_;clear hb hbox hg))
 (try simp only [Act.put,List.setIfInBounds_toArray,List.set_cons_zero,List.set_cons_succ])
 go_cut [32] (fun v32 wc=>∃ (kq:Nat) (x32_3:Bool),v32=.bool x32_3∧Aside0 (mosaiclaw03_MerkleBinds.j0 kq l0 a1 x32_3 a2_0 l2_1=some true)∧Aside0 (kq≤k)∧Aside0 (wc.heap[gb757]?=some (.cells #[.string a2_0,(.slice A2_1 l2_1.length c2_1)] 109 (0,0)))∧Aside0 (Below w.heap.size w wc))
 case first =>
  have H:=HC4.out
  clear HC4
  replace H:=Option.bind_eq_some_iff.mp H
  obtain ⟨t758,A60,H⟩:=H
  replace H:(if t758=true then (if (l0.length:Int)=0 then (mosaiclaw03_MerkleBinds.j0 k l0 a1 true a2_0 l2_1) else (if (a2_0.size:Int) > 1024 then (mosaiclaw03_MerkleBinds.j0 k l0 a1 true a2_0 l2_1) else ((mosaiclaw03_few.f k l2_1 12 100).bind fun t759=>(mosaiclaw03_MerkleBinds.j0 k l0 a1 (!t759) a2_0 l2_1)))) else (mosaiclaw03_MerkleBinds.j0 k l0 a1 true a2_0 l2_1))=some true:=H
  have A6:=Aside0.mk A60
  clear A60
  by_cases c7:t758=true
  ·
   subst c7
   have H1:(if (l0.length:Int)=0 then (mosaiclaw03_MerkleBinds.j0 k l0 a1 true a2_0 l2_1) else (if (a2_0.size:Int) > 1024 then (mosaiclaw03_MerkleBinds.j0 k l0 a1 true a2_0 l2_1) else ((mosaiclaw03_few.f k l2_1 12 100).bind fun t759=>(mosaiclaw03_MerkleBinds.j0 k l0 a1 (!t759) a2_0 l2_1))))=some true:=by rw [if_pos rfl] at H;exact H
   clear H
   have H:=H1
   clear H1
   by_cases c8:(l0.length:Int)=0
   ·
    rw [if_pos c8] at H
    have c8b0:((l0.length:Int) == 0)=true:=beq_iff_eq.mpr c8
    have c8b1:((l0.length:Int) != 0)=false:=bne_eq_false_iff_eq.mpr c8
    clear c8
    (first|rw [c8b0]|(simp only [i64_w,i32_w];rw [c8b0])|skip)
    have H':=Aside0.mk H
    clear H
    go_wp2_with (first|((with_reducible refine gate_callee (f:=44) rfl ?_);refine goesL_ (some 14) rfl rfl Try.func44 (by kernel_rfl) rfl #[.slice A0 l0.length c0,.int .i64 20,.int .i64 1024] rfl (by (try simp only [List.map_toArray,List.map_cons,List.map_nil]);first|done|rfl|(simp only [List.length_drop,List.length_take];rfl)) ?_;(with_reducible refine (mosaiclaw03_few.calls k _ _ l0 20 1024 true _ ?side1 ?side2 A6.out).mono ?_);(case side1=>repeat (first|exact (Kd.C_below HR0.out HB.out)|(with_reducible refine Kd.C_alloc ?_ _)|(with_reducible refine Kd.C_drewN ?_ _)|(with_reducible refine Kd.C_drew ?_)));(case side2=>exact HC0.out);rintro e w' ⟨rfl,⟨nd,rfl⟩⟩;refine ⟨_,rfl,?_⟩))
    go_meet
    case rel=>exact ⟨_,(true),(by first|rfl|(simp;done)|(simp [*];done)),(by first|exact H'|(rw [hji29];exact H')),⟨by first|omega|exact Nat.le_refl _⟩,⟨by (with_reducible repeat (first|refine blk_drewN ?_ _|refine blk_drew ?_|refine blk_alloc ?_ _));exact BK757.out⟩,⟨by repeat (first|(with_reducible first|exact HB.out|apply below_alloc|apply pw_below_drewN|apply below_drew1|refine below_set ?_ GE757.out)|exact HB.out)⟩⟩
   ·
    rw [if_neg c8] at H
    have c8b0:((l0.length:Int) == 0)=false:=beq_eq_false_iff_ne.mpr c8
    have c8b1:((l0.length:Int) != 0)=true:=bne_iff_ne.mpr c8
    have c8b2:¬ (l0=[]):=fun h_=>c8 (by rw [h_];rfl)
    (first|rw [c8b0]|(simp only [i64_w,i32_w];rw [c8b0])|skip)
    by_cases c9:(a2_0.size:Int) > 1024
    ·
     rw [if_pos c9] at H
     have c9b0:decide (1024 < (a2_0.size:Int))=true:=decide_eq_true c9
     have c9b1:decide (1024 < a2_0.size)=true:=decide_eq_true (by omega)
     clear c9
     have H':=Aside0.mk H
     clear H
     go_wp2_with (first|((with_reducible refine gate_callee (f:=44) rfl ?_);refine goesL_ (some 14) rfl rfl Try.func44 (by kernel_rfl) rfl #[.slice A0 l0.length c0,.int .i64 20,.int .i64 1024] rfl (by (try simp only [List.map_toArray,List.map_cons,List.map_nil]);first|done|rfl|(simp only [List.length_drop,List.length_take];rfl)) ?_;(with_reducible refine (mosaiclaw03_few.calls k _ _ l0 20 1024 true _ ?side1 ?side2 A6.out).mono ?_);(case side1=>repeat (first|exact (Kd.C_below HR0.out HB.out)|(with_reducible refine Kd.C_alloc ?_ _)|(with_reducible refine Kd.C_drewN ?_ _)|(with_reducible refine Kd.C_drew ?_)));(case side2=>exact HC0.out);rintro e w' ⟨rfl,⟨nd,rfl⟩⟩;refine ⟨_,rfl,?_⟩;have hcz10_0:w5.cell? ⟨gb757,0,none⟩=some (.string a2_0):=(blk_cell BK757.out 0).trans rfl;have hcz10_1:w5.cell? ⟨gb757,1,none⟩=some (.slice A2_1 l2_1.length c2_1):=(blk_cell BK757.out 1).trans rfl;have hfz10_0:=blk_frozen BK757.out 0;have hfz10_1:=blk_frozen BK757.out 1))
     go_meet
     case rel=>exact ⟨_,(true),(by first|rfl|(simp;done)|(simp [*];done)),(by first|exact H'|(rw [hji29];exact H')),⟨by first|omega|exact Nat.le_refl _⟩,⟨by (with_reducible repeat (first|refine blk_drewN ?_ _|refine blk_drew ?_|refine blk_alloc ?_ _));exact BK757.out⟩,⟨by repeat (first|(with_reducible first|exact HB.out|apply below_alloc|apply pw_below_drewN|apply below_drew1|refine below_set ?_ GE757.out)|exact HB.out)⟩⟩
    ·
     rw [if_neg c9] at H
     have c9b0:decide (1024 < (a2_0.size:Int))=false:=decide_eq_false c9
     have c9b1:decide (1024 < a2_0.size)=false:=decide_eq_false (by omega)
     clear c9
     replace H:=Option.bind_eq_some_iff.mp H
     obtain ⟨t759,A110,H⟩:=H
     replace H:(mosaiclaw03_MerkleBinds.j0 k l0 a1 (!t759) a2_0 l2_1)=some true:=H
     have A11:=Aside0.mk A110
     clear A110
     have H':=Aside0.mk H
     clear H
     go_wp2_with (first|((with_reducible refine gate_callee (f:=44) rfl ?_);refine goesL_ (some 14) rfl rfl Try.func44 (by kernel_rfl) rfl #[.slice A0 l0.length c0,.int .i64 20,.int .i64 1024] rfl (by (try simp only [List.map_toArray,List.map_cons,List.map_nil]);first|done|rfl|(simp only [List.length_drop,List.length_take];rfl)) ?_;(with_reducible refine (mosaiclaw03_few.calls k _ _ l0 20 1024 true _ ?side1 ?side2 A6.out).mono ?_);(case side1=>repeat (first|exact (Kd.C_below HR0.out HB.out)|(with_reducible refine Kd.C_alloc ?_ _)|(with_reducible refine Kd.C_drewN ?_ _)|(with_reducible refine Kd.C_drew ?_)));(case side2=>exact HC0.out);rintro e w' ⟨rfl,⟨nd,rfl⟩⟩;refine ⟨_,rfl,?_⟩;have hcz12_0:w5.cell? ⟨gb757,0,none⟩=some (.string a2_0):=(blk_cell BK757.out 0).trans rfl;have hcz12_1:w5.cell? ⟨gb757,1,none⟩=some (.slice A2_1 l2_1.length c2_1):=(blk_cell BK757.out 1).trans rfl;have hfz12_0:=blk_frozen BK757.out 0;have hfz12_1:=blk_frozen BK757.out 1)|(go_at_call 44;(with_reducible refine (mosaiclaw03_few.calls k _ _ l2_1 12 100 t759 _ ?side1 ?side2 A11.out).mono ?_);(case side1=>repeat (first|exact (Kd.C_below HR2_1.out (by repeat (first|(with_reducible first|exact HB.out|apply below_alloc|apply pw_below_drewN|apply below_drew1|refine below_set ?_ GE757.out)|exact HB.out)))|(with_reducible refine Kd.C_alloc ?_ _)|(with_reducible refine Kd.C_drewN ?_ _)|(with_reducible refine Kd.C_drew ?_)));(case side2=>exact HC2_1.out);rintro e w' ⟨rfl,⟨nd,rfl⟩⟩))
     go_meet
     case rel=>exact ⟨_,(!t759),(by first|rfl|(simp;done)|(simp [*];done)),(by first|exact H'|(rw [hji29];exact H')),⟨by first|omega|exact Nat.le_refl _⟩,⟨by (with_reducible repeat (first|refine blk_drewN ?_ _|refine blk_drew ?_|refine blk_alloc ?_ _));exact BK757.out⟩,⟨by repeat (first|(with_reducible first|exact HB.out|apply below_alloc|apply pw_below_drewN|apply below_drew1|refine below_set ?_ GE757.out)|exact HB.out)⟩⟩
  ·
   replace c7:=Bool.eq_false_iff.mpr c7
   subst c7
   have H1:(mosaiclaw03_MerkleBinds.j0 k l0 a1 true a2_0 l2_1)=some true:=by rw [if_neg (show ¬ (false=true) by decide)] at H;exact H
   clear H
   have H:=H1
   clear H1
   have H':=Aside0.mk H
   clear H
   go_wp2_with (first|((with_reducible refine gate_callee (f:=44) rfl ?_);refine goesL_ (some 14) rfl rfl Try.func44 (by kernel_rfl) rfl #[.slice A0 l0.length c0,.int .i64 20,.int .i64 1024] rfl (by (try simp only [List.map_toArray,List.map_cons,List.map_nil]);first|done|rfl|(simp only [List.length_drop,List.length_take];rfl)) ?_;(with_reducible refine (mosaiclaw03_few.calls k _ _ l0 20 1024 false _ ?side1 ?side2 A6.out).mono ?_);(case side1=>repeat (first|exact (Kd.C_below HR0.out HB.out)|(with_reducible refine Kd.C_alloc ?_ _)|(with_reducible refine Kd.C_drewN ?_ _)|(with_reducible refine Kd.C_drew ?_)));(case side2=>exact HC0.out);rintro e w' ⟨rfl,⟨nd,rfl⟩⟩;refine ⟨_,rfl,?_⟩))
   go_meet
   case rel=>exact ⟨_,(true),(by first|rfl|(simp;done)|(simp [*];done)),(by first|exact H'|(rw [hji29];exact H')),⟨by first|omega|exact Nat.le_refl _⟩,⟨by (with_reducible repeat (first|refine blk_drewN ?_ _|refine blk_drew ?_|refine blk_alloc ?_ _));exact BK757.out⟩,⟨by repeat (first|(with_reducible first|exact HB.out|apply below_alloc|apply pw_below_drewN|apply below_drew1|refine below_set ?_ GE757.out)|exact HB.out)⟩⟩
 case rest =>
  clear HC4
  try clear c2
  try clear p2
  try clear c4
  try clear c7
  try clear c8
  try clear c8b0
  try clear c8b1
  try clear c8b2
  try clear c9
  try clear c9b0
  try clear c9b1
  try clear hcz10_0
  try clear hcz10_1
  try clear hcz12_0
  try clear hcz12_1
  try clear hfz10_0
  try clear hfz10_1
  try clear hfz12_0
  try clear hfz12_1
  obtain ⟨kq,x32_3,rfl,HA,HJ3,BK757,HB⟩:=hcut
  cases kq with
  | zero=>exact absurd HA.out (by simp [mosaiclaw03_MerkleBinds.j0])
  | succ kj3 =>
   have H:=HA.out
   clear HA
   simp only [mosaiclaw03_MerkleBinds.j0] at H
   by_cases c13:x32_3=true
   ·
    subst c13
    have H1:((mosaiclaw03_awake.f kj3).bind fun t760=>(some t760))=some true:=by rw [if_pos rfl] at H;exact H
    clear H
    have H:=H1
    clear H1
    replace H:=Option.bind_eq_some_iff.mp H
    obtain ⟨t760,A140,H⟩:=H
    replace H:(some t760)=some true:=H
    have A14:=Aside0.mk A140
    clear A140
    obtain rfl:=Option.some.inj H
    go_wp2_with (first|((with_reducible refine gate_callee (f:=45) rfl ?_);refine goesL_ (some 33) rfl rfl Try.func45 (by kernel_rfl) rfl #[] rfl (by (try simp only [List.map_toArray,List.map_cons,List.map_nil]);first|done|rfl|(simp only [List.length_drop,List.length_take];rfl)) ?_;(with_reducible refine (mosaiclaw03_awake.calls kj3  true _ A14.out).mono ?_);rintro e w15 ⟨rfl,hb⟩;refine ⟨_,rfl,?_⟩;have n0_:=Aside0.mk (blk_below (g:=gb757) (o:=.cells #[.string a2_0,.slice A2_1 l2_1.length c2_1] 109 (0,0)) (by (with_reducible repeat (first|refine blk_drewN ?_ _|refine blk_drew ?_|refine blk_alloc ?_ _));exact BK757.out) hb);have n1_:=Aside0.mk (below_step (by repeat (first|(with_reducible first|exact HB.out|apply below_alloc|apply pw_below_drewN|apply below_drew1|refine below_set ?_ GE757.out)|exact HB.out)) hb);clear BK757;clear HB;have BK757:=n0_;have HB:=n1_;clear n0_ n1_;(try clear hb);(try clear hb2);(try clear hk);(try clear hi)))
    go_ret
    exact ⟨by first|rfl|(simp [errW_none,errW_some] <;> rfl)|(simp [*,errW_none,errW_some] <;> rfl),by repeat (first|(with_reducible first|exact HB.out|apply below_alloc|apply pw_below_drewN|apply below_drew1|refine below_set ?_ GE757.out)|exact HB.out)⟩
   ·
    replace c13:=Bool.eq_false_iff.mpr c13
    subst c13
    have H1:(if (l0.length:Int)=0 then (none) else ((merkle_Root.f kj3 l0).bind fun bt761=>((mosaiclaw03_awake.f kj3).bind fun t763=>(if t763=true then (mosaiclaw03_MerkleBinds.j1 kj3 l0 (Int.tmod (wrap64 ((Int.tmod a1 (l0.length:Int))+(l0.length:Int))) (l0.length:Int)) bt761.1 (bt761.2 != 0) a2_0 l2_1) else (mosaiclaw03_MerkleBinds.j1 kj3 l0 (Int.tmod (wrap64 ((Int.tmod a1 (l0.length:Int))+(l0.length:Int))) (l0.length:Int)) bt761.1 true a2_0 l2_1)))))=some true:=by rw [if_neg (show ¬ (false=true) by decide)] at H;exact H
    clear H
    have H:=H1
    clear H1
    by_cases c16:(l0.length:Int)=0
    ·
     rw [if_pos c16] at H
     exact absurd H (by simp)
    ·
     rw [if_neg c16] at H
     have c16b0:((l0.length:Int) == 0)=false:=beq_eq_false_iff_ne.mpr c16
     have c16b1:((l0.length:Int) != 0)=true:=bne_iff_ne.mpr c16
     have c16b2:¬ (l0=[]):=fun h_=>c16 (by rw [h_];rfl)
     replace H:=Option.bind_eq_some_iff.mp H
     obtain ⟨⟨t761,t762⟩,A170,H⟩:=H
     replace H:((mosaiclaw03_awake.f kj3).bind fun t763=>(if t763=true then (mosaiclaw03_MerkleBinds.j1 kj3 l0 (Int.tmod (wrap64 ((Int.tmod a1 (l0.length:Int))+(l0.length:Int))) (l0.length:Int)) t761 (t762 != 0) a2_0 l2_1) else (mosaiclaw03_MerkleBinds.j1 kj3 l0 (Int.tmod (wrap64 ((Int.tmod a1 (l0.length:Int))+(l0.length:Int))) (l0.length:Int)) t761 true a2_0 l2_1)))=some true:=H
     have A17:=Aside0.mk A170
     clear A170
     have HC18:=Aside0.mk H
     clear H
     go_upto_region 5 with (first|((with_reducible refine gate_callee (f:=46) rfl ?_);refine goesL_ (some 46) rfl rfl Try.func46 (by kernel_rfl) rfl #[.slice A0 l0.length c0] rfl (by (try simp only [List.map_toArray,List.map_cons,List.map_nil]);first|done|rfl|(simp only [List.length_drop,List.length_take];rfl)) ?_;(with_reducible refine (merkle_Root.calls kj3 _ _ l0 t761 t762 _ ?side1 ?side2 A17.out).mono ?_);(case side1=>repeat (first|exact (Kd.C_below HR0.out HB.out)|(with_reducible refine Kd.C_alloc ?_ _)|(with_reducible refine Kd.C_drewN ?_ _)|(with_reducible refine Kd.C_drew ?_)));(case side2=>exact HC0.out);rintro e w19 ⟨rfl,hb⟩;refine ⟨_,rfl,?_⟩;have n0_:=Aside0.mk (blk_below (g:=gb757) (o:=.cells #[.string a2_0,.slice A2_1 l2_1.length c2_1] 109 (0,0)) (by (with_reducible repeat (first|refine blk_drewN ?_ _|refine blk_drew ?_|refine blk_alloc ?_ _));exact BK757.out) hb);have n1_:=Aside0.mk (below_step (by repeat (first|(with_reducible first|exact HB.out|apply below_alloc|apply pw_below_drewN|apply below_drew1|refine below_set ?_ GE757.out)|exact HB.out)) hb);clear BK757;clear HB;have BK757:=n0_;have HB:=n1_;clear n0_ n1_;(try clear hb);(try clear hb2);(try clear hk);(try clear hi)))
     (try simp only [Act.put,List.setIfInBounds_toArray,List.set_cons_zero,List.set_cons_succ])
     go_cut [54] (fun v54 wc=>∃ (kq:Nat) (x54_17:Bool),v54=.bool x54_17∧Aside0 (mosaiclaw03_MerkleBinds.j1 kq l0 (Int.tmod (wrap64 ((Int.tmod a1 (l0.length:Int))+(l0.length:Int))) (l0.length:Int)) t761 x54_17 a2_0 l2_1=some true)∧Aside0 (kq≤kj3)∧Aside0 (wc.heap[gb757]?=some (.cells #[.string a2_0,(.slice A2_1 l2_1.length c2_1)] 109 (0,0)))∧Aside0 (Below w.heap.size w wc))
     case first =>
      have H:=HC18.out
      clear HC18
      replace H:=Option.bind_eq_some_iff.mp H
      obtain ⟨t763,A200,H⟩:=H
      replace H:(if t763=true then (mosaiclaw03_MerkleBinds.j1 kj3 l0 (Int.tmod (wrap64 ((Int.tmod a1 (l0.length:Int))+(l0.length:Int))) (l0.length:Int)) t761 (t762 != 0) a2_0 l2_1) else (mosaiclaw03_MerkleBinds.j1 kj3 l0 (Int.tmod (wrap64 ((Int.tmod a1 (l0.length:Int))+(l0.length:Int))) (l0.length:Int)) t761 true a2_0 l2_1))=some true:=H
      have A20:=Aside0.mk A200
      clear A200
      by_cases c21:t763=true
      ·
       subst c21
       have H1:(mosaiclaw03_MerkleBinds.j1 kj3 l0 (Int.tmod (wrap64 ((Int.tmod a1 (l0.length:Int))+(l0.length:Int))) (l0.length:Int)) t761 (t762 != 0) a2_0 l2_1)=some true:=by rw [if_pos rfl] at H;exact H
       clear H
       have H:=H1
       clear H1
       have H':=Aside0.mk H
       clear H
       go_wp2_with (first|((with_reducible refine gate_callee (f:=45) rfl ?_);refine goesL_ (some 49) rfl rfl Try.func45 (by kernel_rfl) rfl #[] rfl (by (try simp only [List.map_toArray,List.map_cons,List.map_nil]);first|done|rfl|(simp only [List.length_drop,List.length_take];rfl)) ?_;(with_reducible refine (mosaiclaw03_awake.calls kj3  true _ A20.out).mono ?_);rintro e w22 ⟨rfl,hb⟩;refine ⟨_,rfl,?_⟩;have n0_:=Aside0.mk (blk_below (g:=gb757) (o:=.cells #[.string a2_0,.slice A2_1 l2_1.length c2_1] 109 (0,0)) (by (with_reducible repeat (first|refine blk_drewN ?_ _|refine blk_drew ?_|refine blk_alloc ?_ _));exact BK757.out) hb);have n1_:=Aside0.mk (below_step (by repeat (first|(with_reducible first|exact HB.out|apply below_alloc|apply pw_below_drewN|apply below_drew1|refine below_set ?_ GE757.out)|exact HB.out)) hb);clear BK757;clear HB;have BK757:=n0_;have HB:=n1_;clear n0_ n1_;(try clear hb);(try clear hb2);(try clear hk);(try clear hi)))
       go_meet
       case rel=>exact ⟨_,((t762 != 0)),(by first|rfl|(simp;done)|(simp [*];done)),(by first|exact H'|(rw [hji29];exact H')),⟨by have:=HJ3.out;first|omega|exact Nat.le_refl _⟩,⟨by (with_reducible repeat (first|refine blk_drewN ?_ _|refine blk_drew ?_|refine blk_alloc ?_ _));exact BK757.out⟩,⟨by repeat (first|(with_reducible first|exact HB.out|apply below_alloc|apply pw_below_drewN|apply below_drew1|refine below_set ?_ GE757.out)|exact HB.out)⟩⟩
      ·
       replace c21:=Bool.eq_false_iff.mpr c21
       subst c21
       have H1:(mosaiclaw03_MerkleBinds.j1 kj3 l0 (Int.tmod (wrap64 ((Int.tmod a1 (l0.length:Int))+(l0.length:Int))) (l0.length:Int)) t761 true a2_0 l2_1)=some true:=by rw [if_neg (show ¬ (false=true) by decide)] at H;exact H
       clear H
       have H:=H1
       clear H1
       have H':=Aside0.mk H
       clear H
       go_wp2_with (first|((with_reducible refine gate_callee (f:=45) rfl ?_);refine goesL_ (some 49) rfl rfl Try.func45 (by kernel_rfl) rfl #[] rfl (by (try simp only [List.map_toArray,List.map_cons,List.map_nil]);first|done|rfl|(simp only [List.length_drop,List.length_take];rfl)) ?_;(with_reducible refine (mosaiclaw03_awake.calls kj3  false _ A20.out).mono ?_);rintro e w23 ⟨rfl,hb⟩;refine ⟨_,rfl,?_⟩;have n0_:=Aside0.mk (blk_below (g:=gb757) (o:=.cells #[.string a2_0,.slice A2_1 l2_1.length c2_1] 109 (0,0)) (by (with_reducible repeat (first|refine blk_drewN ?_ _|refine blk_drew ?_|refine blk_alloc ?_ _));exact BK757.out) hb);have n1_:=Aside0.mk (below_step (by repeat (first|(with_reducible first|exact HB.out|apply below_alloc|apply pw_below_drewN|apply below_drew1|refine below_set ?_ GE757.out)|exact HB.out)) hb);clear BK757;clear HB;have BK757:=n0_;have HB:=n1_;clear n0_ n1_;(try clear hb);(try clear hb2);(try clear hk);(try clear hi)))
       go_meet
       case rel=>exact ⟨_,(true),(by first|rfl|(simp;done)|(simp [*];done)),(by first|exact H'|(rw [hji29];exact H')),⟨by have:=HJ3.out;first|omega|exact Nat.le_refl _⟩,⟨by (with_reducible repeat (first|refine blk_drewN ?_ _|refine blk_drew ?_|refine blk_alloc ?_ _));exact BK757.out⟩,⟨by repeat (first|(with_reducible first|exact HB.out|apply below_alloc|apply pw_below_drewN|apply below_drew1|refine below_set ?_ GE757.out)|exact HB.out)⟩⟩
     case rest =>
      clear HC18
      try clear c1
      try clear c2
      try clear p2
      try clear c4
      try clear p6
      try clear c7
      try clear c8
      try clear c8b0
      try clear c8b1
      try clear c8b2
      try clear c9
      try clear c9b0
      try clear c9b1
      try clear c13
      try clear c16
      try clear c16b0
      try clear c16b1
      try clear c16b2
      try clear c21
      try clear hcz10_0
      try clear hcz10_1
      try clear hcz12_0
      try clear hcz12_1
      try clear hfz10_0
      try clear hfz10_1
      try clear hfz12_0
      try clear hfz12_1
      try clear p2
      obtain ⟨kq,x54_17,rfl,HA,HJ17,BK757,HB⟩:=hcut
      cases kq with
      | zero=>exact absurd HA.out (by simp [mosaiclaw03_MerkleBinds.j1])
      | succ kj17 =>
       have H:=HA.out
       clear HA
       simp only [mosaiclaw03_MerkleBinds.j1] at H
       by_cases c24:x54_17=true
       ·
        subst c24
        have H1:(some false)=some true:=by rw [if_pos rfl] at H;exact H
        clear H
        have H:=H1
        clear H1
        exact absurd (Option.some.inj H) (by simp)
       ·
        replace c24:=Bool.eq_false_iff.mpr c24
        subst c24
        have H1:((merkle_Leaf.f a2_0).bind fun t764=>((merkle_Check.f kj17 t761 (l0.length:Int) (Int.tmod (wrap64 ((Int.tmod a1 (l0.length:Int))+(l0.length:Int))) (l0.length:Int)) t764 l2_1).bind fun t765=>(if t765=true then (if 0≤(Int.tmod (wrap64 ((Int.tmod a1 (l0.length:Int))+(l0.length:Int))) (l0.length:Int)) then (if (Int.tmod (wrap64 ((Int.tmod a1 (l0.length:Int))+(l0.length:Int))) (l0.length:Int)) < (l0.length:Int) then (mosaiclaw03_MerkleBinds.j2 kj17 l0 (Int.tmod (wrap64 ((Int.tmod a1 (l0.length:Int))+(l0.length:Int))) (l0.length:Int)) (a2_0.toList == (rdOf ByteArray.empty l0 (Int.tmod (wrap64 ((Int.tmod a1 (l0.length:Int))+(l0.length:Int))) (l0.length:Int))).toList) a2_0 l2_1) else (none)) else (none)) else (mosaiclaw03_MerkleBinds.j2 kj17 l0 (Int.tmod (wrap64 ((Int.tmod a1 (l0.length:Int))+(l0.length:Int))) (l0.length:Int)) true a2_0 l2_1))))=some true:=by rw [if_neg (show ¬ (false=true) by decide)] at H;exact H
        clear H
        have H:=H1
        clear H1
        have HC25:=Aside0.mk H
        clear H
        go_upto_region 7 with (fail)
        go_cut [74] (fun v74 wc=>∃ (kq:Nat) (x74_24:Bool),v74=.bool x74_24∧Aside0 (mosaiclaw03_MerkleBinds.j2 kq l0 (Int.tmod (wrap64 ((Int.tmod a1 (l0.length:Int))+(l0.length:Int))) (l0.length:Int)) x74_24 a2_0 l2_1=some true)∧Aside0 (kq≤kj17)∧Aside0 (wc.heap[gb757]?=some (.cells #[.string a2_0,(.slice A2_1 l2_1.length c2_1)] 109 (0,0)))∧Aside0 (Below w.heap.size w wc))
        case first =>
         have H:=HC25.out
         clear HC25
         replace H:=Option.bind_eq_some_iff.mp H
         obtain ⟨t764,A260,H⟩:=H
         replace H:((merkle_Check.f kj17 t761 (l0.length:Int) (Int.tmod (wrap64 ((Int.tmod a1 (l0.length:Int))+(l0.length:Int))) (l0.length:Int)) t764 l2_1).bind fun t765=>(if t765=true then (if 0≤(Int.tmod (wrap64 ((Int.tmod a1 (l0.length:Int))+(l0.length:Int))) (l0.length:Int)) then (if (Int.tmod (wrap64 ((Int.tmod a1 (l0.length:Int))+(l0.length:Int))) (l0.length:Int)) < (l0.length:Int) then (mosaiclaw03_MerkleBinds.j2 kj17 l0 (Int.tmod (wrap64 ((Int.tmod a1 (l0.length:Int))+(l0.length:Int))) (l0.length:Int)) (a2_0.toList == (rdOf ByteArray.empty l0 (Int.tmod (wrap64 ((Int.tmod a1 (l0.length:Int))+(l0.length:Int))) (l0.length:Int))).toList) a2_0 l2_1) else (none)) else (none)) else (mosaiclaw03_MerkleBinds.j2 kj17 l0 (Int.tmod (wrap64 ((Int.tmod a1 (l0.length:Int))+(l0.length:Int))) (l0.length:Int)) true a2_0 l2_1)))=some true:=H
         have A26:=Aside0.mk A260
         clear A260
         replace H:=Option.bind_eq_some_iff.mp H
         obtain ⟨t765,A270,H⟩:=H
         replace H:(if t765=true then (if 0≤(Int.tmod (wrap64 ((Int.tmod a1 (l0.length:Int))+(l0.length:Int))) (l0.length:Int)) then (if (Int.tmod (wrap64 ((Int.tmod a1 (l0.length:Int))+(l0.length:Int))) (l0.length:Int)) < (l0.length:Int) then (mosaiclaw03_MerkleBinds.j2 kj17 l0 (Int.tmod (wrap64 ((Int.tmod a1 (l0.length:Int))+(l0.length:Int))) (l0.length:Int)) (a2_0.toList == (rdOf ByteArray.empty l0 (Int.tmod (wrap64 ((Int.tmod a1 (l0.length:Int))+(l0.length:Int))) (l0.length:Int))).toList) a2_0 l2_1) else (none)) else (none)) else (mosaiclaw03_MerkleBinds.j2 kj17 l0 (Int.tmod (wrap64 ((Int.tmod a1 (l0.length:Int))+(l0.length:Int))) (l0.length:Int)) true a2_0 l2_1))=some true:=H
         have A27:=Aside0.mk A270
         clear A270
         by_cases c28:t765=true
         ·
          subst c28
          have H1:(if 0≤(Int.tmod (wrap64 ((Int.tmod a1 (l0.length:Int))+(l0.length:Int))) (l0.length:Int)) then (if (Int.tmod (wrap64 ((Int.tmod a1 (l0.length:Int))+(l0.length:Int))) (l0.length:Int)) < (l0.length:Int) then (mosaiclaw03_MerkleBinds.j2 kj17 l0 (Int.tmod (wrap64 ((Int.tmod a1 (l0.length:Int))+(l0.length:Int))) (l0.length:Int)) (a2_0.toList == (rdOf ByteArray.empty l0 (Int.tmod (wrap64 ((Int.tmod a1 (l0.length:Int))+(l0.length:Int))) (l0.length:Int))).toList) a2_0 l2_1) else (none)) else (none))=some true:=by rw [if_pos rfl] at H;exact H
          clear H
          have H:=H1
          clear H1
          obtain ⟨ji29,hji29⟩:∃ j_:Int,(Int.tmod (wrap64 ((Int.tmod a1 (l0.length:Int))+(l0.length:Int))) (l0.length:Int))=j_:=⟨_,rfl⟩
          replace H:(if 0≤(ji29) then (if (ji29) < (l0.length:Int) then (mosaiclaw03_MerkleBinds.j2 kj17 l0 (ji29) (a2_0.toList == (rdOf ByteArray.empty l0 (ji29)).toList) a2_0 l2_1) else (none)) else (none))=some true:=by first|(rw [hji29] at H;exact H)|(simp only [hji29] at H ⊢;exact H)
          (try rw [hji29] at A26)
          (try rw [hji29] at A27)
          by_cases c30:0≤(ji29)
          ·
           rw [if_pos c30] at H
           have c30b0:decide (0≤(ji29))=true:=decide_eq_true c30
           clear c30
           (first|rw [c30b0]|(simp only [i64_w,i32_w];rw [c30b0])|skip)
           by_cases c31:(ji29) < (l0.length:Int)
           ·
            rw [if_pos c31] at H
            have c31b0:decide ((ji29) < (l0.length:Int))=true:=decide_eq_true c31
            clear c31
            have H':=Aside0.mk H
            clear H
            try go_wp2
            have n0_:=Aside0.mk (blk_drew BK757.out)
            have n1_:=Aside0.mk (below_drew1 HB.out)
            clear BK757
            clear HB
            have BK757:=n0_
            have HB:=n1_
            clear n0_ n1_
            have p766:0≤((ji29):Int):=of_decide_eq_true (by first|(with_reducible assumption)|assumption)
            have q766:(ji29) < (l0.length:Int):=of_decide_eq_true (by first|(with_reducible assumption)|assumption)
            obtain ⟨ad766,e766,hx766_0⟩:=Kd.at_string HR0.out (ji29) p766 q766
            have hw766_0:=hx766_0
            cases e766
            replace hx766_0:=(HB.out.cell (World.block_lt_of_cell? w _ hx766_0)).trans hx766_0
            replace p766:=eq_true p766
            replace q766:=eq_true q766
            refine start_ (n:=20) (S:=fun w'=>w'.cell? ⟨gb757,0,none⟩=some (.string a2_0)∧w'.cell? ⟨gb757,1,none⟩=some (.slice A2_1 l2_1.length c2_1)∧w'.cell? (ad766.add ((ji29)).toNat)=some (.string (rdOf ByteArray.empty l0 (ji29)))) (ds:=[]) #[false,false,false,false,false,false,false,false,false,false,false,false,false,false,false,false,false,false,false,false] (by kernel_rfl) rfl rfl ⟨(blk_cell BK757.out 0).trans rfl,(blk_cell BK757.out 1).trans rfl,((HB.out.cell (World.block_lt_of_cell? w _ hw766_0)).trans hw766_0)⟩ (fun hHeld=>?_);refine with_tabW mosaiclaw03_MerkleBinds.tab7 mosaiclaw03_MerkleBinds.bits7 (fun HT_ HW_=>?_)
            generalize wc.drew=w32 at BK757 HB hx766_0 hHeld ⊢
            refine pure_ (i:=0) (N:=some 55) (v:=?_) (a':=?_) #[true,false,false,false,false,false,false,false,false,false,false,false,false,false,false,false,false,false,false,false] rfl rfl (any_of HT_.out (by kernel_rfl)) (fun _ _ _ h=>h) (Or.inl ⟨by rfl,?_⟩) ?_ ?_
            rotate_left
            ·
             intro w'
             go_simp
             with_reducible rfl
            rotate_left
            ·
             simp only [Act.put,List.setIfInBounds_toArray,List.set_cons_zero,List.set_cons_succ,i64_w,i32_w]
             rfl
            refine pure_ (i:=1) (N:=some 56) (v:=?_) (a':=?_) #[true,true,false,false,false,false,false,false,false,false,false,false,false,false,false,false,false,false,false,false] rfl rfl (any_of HT_.out (by kernel_rfl)) (fun _ _ _ h=>h) (Or.inl ⟨by rfl,?_⟩) ?_ ?_
            rotate_left
            ·
             intro w'
             go_simp
             with_reducible rfl
            rotate_left
            ·
             simp only [Act.put,List.setIfInBounds_toArray,List.set_cons_zero,List.set_cons_succ,i64_w,i32_w]
             rfl
            refine pure_ (i:=2) (N:=some 57) (v:=?_) (a':=?_) #[true,true,true,false,false,false,false,false,false,false,false,false,false,false,false,false,false,false,false,false] rfl rfl (any_of HT_.out (by kernel_rfl)) (fun _ _ _ h=>h) (Or.inl ⟨by rfl,?_⟩) ?_ ?_
            rotate_left
            ·
             intro w'
             go_simp
             with_reducible rfl
            rotate_left
            ·
             simp only [Act.put,List.setIfInBounds_toArray,List.set_cons_zero,List.set_cons_succ,i64_w,i32_w]
             rfl
            refine pure_ (i:=3) (N:=some 58) (v:=?_) (a':=?_) #[true,true,true,true,false,false,false,false,false,false,false,false,false,false,false,false,false,false,false,false] rfl rfl (any_of HT_.out (by kernel_rfl)) (fun _ _ _ h=>h) (Or.inl ⟨by rfl,?_⟩) ?_ ?_
            rotate_left
            ·
             intro w'
             go_simp
             with_reducible rfl
            rotate_left
            ·
             simp only [Act.put,List.setIfInBounds_toArray,List.set_cons_zero,List.set_cons_succ,i64_w,i32_w]
             rfl
            refine pure_ (i:=4) (N:=some 59) (v:=?_) (a':=?_) #[true,true,true,true,true,false,false,false,false,false,false,false,false,false,false,false,false,false,false,false] rfl rfl (any_of HT_.out (by kernel_rfl)) (fun _ _ _ h=>h) (Or.inl ⟨by rfl,?_⟩) ?_ ?_
            rotate_left
            ·
             intro w'
             go_simp
             with_reducible rfl
            rotate_left
            ·
             simp only [Act.put,List.setIfInBounds_toArray,List.set_cons_zero,List.set_cons_succ,i64_w,i32_w]
             rfl
            refine pure_ (i:=7) (N:=some 62) (v:=?_) (a':=?_) #[true,true,true,true,true,false,false,true,false,false,false,false,false,false,false,false,false,false,false,false] rfl rfl (any_of HT_.out (by kernel_rfl)) (fun _ _ _ h=>h) (Or.inl ⟨by rfl,?_⟩) ?_ ?_
            rotate_left
            ·
             intro w'
             go_simp
             with_reducible rfl
            rotate_left
            ·
             simp only [Act.put,List.setIfInBounds_toArray,List.set_cons_zero,List.set_cons_succ,i64_w,i32_w]
             rfl
            refine take_ (i:=5) (N:=some 60) (v:=?_) (a':=?_) #[true,true,true,true,true,true,false,true,false,false,false,false,false,false,false,false,false,false,false,false] rfl rfl (take_ofW HT_.out HW_.out (by kernel_rfl)) (fun _ _ _ h=>h) (Or.inl ⟨by rfl,?_⟩) hHeld ?_ ?_
            rotate_left
            ·
             rintro w' ⟨s0,s1,s2⟩
             go_simp
             with_reducible rfl
            rotate_left
            ·
             simp only [Act.put,List.setIfInBounds_toArray,List.set_cons_zero,List.set_cons_succ,i64_w,i32_w]
             rfl
            refine take_ (i:=8) (N:=some 63) (v:=?_) (a':=?_) #[true,true,true,true,true,true,false,true,true,false,false,false,false,false,false,false,false,false,false,false] rfl rfl (take_ofW HT_.out HW_.out (by kernel_rfl)) (fun _ _ _ h=>h) (Or.inl ⟨by rfl,?_⟩) hHeld ?_ ?_
            rotate_left
            ·
             rintro w' ⟨s0,s1,s2⟩
             go_simp
             with_reducible rfl
            rotate_left
            ·
             simp only [Act.put,List.setIfInBounds_toArray,List.set_cons_zero,List.set_cons_succ,i64_w,i32_w]
             rfl
            refine one_ (i:=6) (N:=some 61) #[true,true,true,true,true,true,true,true,true,false,false,false,false,false,false,false,false,false,false,false] rfl rfl (one_of HT_.out (by kernel_rfl)) (by decide) (fun K hK=>?_)
            refine goes_ Try.func48 (by kernel_rfl) rfl #[.string a2_0] (by rfl) rfl rfl (by (try simp only [List.map_toArray,List.map_cons,List.map_nil]);first|done|rfl|(simp only [List.length_drop,List.length_take];rfl)) ?_
            with_reducible refine (merkle_Leaf.calls a2_0 t764 _ A26.out).mono ?_
            rintro e w33 ⟨rfl,hb⟩
            refine ⟨_,rfl,?_⟩
            have n0_:=Aside0.mk (blk_below (g:=gb757) (o:=.cells #[.string a2_0,.slice A2_1 l2_1.length c2_1] 109 (0,0)) (by (with_reducible repeat (first|refine blk_drewN ?_ _|refine blk_drew ?_|refine blk_alloc ?_ _));exact BK757.out) hb)
            have n1_:=Aside0.mk (below_step (by repeat (first|(with_reducible first|exact HB.out|apply below_alloc|apply pw_below_drewN|apply below_drew1|refine below_set ?_ GE757.out)|exact HB.out)) hb)
            clear BK757
            clear HB
            have BK757:=n0_
            have HB:=n1_
            clear n0_ n1_
            (try clear hb)
            (try clear hb2)
            (try clear hk)
            (try clear hi)
            refine hK.out _ _ ⟨(blk_cell BK757.out 0).trans rfl,(blk_cell BK757.out 1).trans rfl,((HB.out.cell (World.block_lt_of_cell? w _ hw766_0)).trans hw766_0)⟩ (fun hHeld=>?_)
            clear hK K
            refine norm_ (a':=?_) ?_ ?_
            rotate_left
            ·
             show Act.put _ (some 61) _=_
             simp only [Act.put,List.setIfInBounds_toArray,List.set_cons_zero,List.set_cons_succ,i64_w,i32_w]
             rfl
            refine one_ (i:=9) (N:=some 64) #[true,true,true,true,true,true,true,true,true,true,false,false,false,false,false,false,false,false,false,false] rfl rfl (one_of HT_.out (by kernel_rfl)) (by decide) (fun K hK=>?_)
            refine goes_ Try.func79 (by kernel_rfl) rfl #[.string t761,.int .i64 (l0.length:Int),.int .i64 (ji29),.string t764,.slice A2_1 l2_1.length c2_1] (by rfl) rfl rfl (by (try simp only [List.map_toArray,List.map_cons,List.map_nil]);first|done|(simp only [hji29];rfl)|rfl|(simp only [List.length_drop,List.length_take];rfl)) ?_
            with_reducible refine (merkle_Check.calls kj17 t761 (l0.length:Int) (ji29) t764 _ _ l2_1 true _ ?side1 ?side2 A27.out).mono ?_
            (case side1=>repeat (first|exact (Kd.C_below HR2_1.out HB.out)|(with_reducible refine Kd.C_alloc ?_ _)|(with_reducible refine Kd.C_drewN ?_ _)|(with_reducible refine Kd.C_drew ?_)))
            (case side2=>exact HC2_1.out)
            rintro e w34 ⟨rfl,hb⟩
            refine ⟨_,rfl,?_⟩
            have n0_:=Aside0.mk (blk_below (g:=gb757) (o:=.cells #[.string a2_0,.slice A2_1 l2_1.length c2_1] 109 (0,0)) (by (with_reducible repeat (first|refine blk_drewN ?_ _|refine blk_drew ?_|refine blk_alloc ?_ _));exact BK757.out) hb)
            have n1_:=Aside0.mk (below_step (by repeat (first|(with_reducible first|exact HB.out|apply below_alloc|apply pw_below_drewN|apply below_drew1|refine below_set ?_ GE757.out)|exact HB.out)) hb)
            clear BK757
            clear HB
            have BK757:=n0_
            have HB:=n1_
            clear n0_ n1_
            (try clear hb)
            (try clear hb2)
            (try clear hk)
            (try clear hi)
            refine hK.out _ _ ⟨(blk_cell BK757.out 0).trans rfl,(blk_cell BK757.out 1).trans rfl,((HB.out.cell (World.block_lt_of_cell? w _ hw766_0)).trans hw766_0)⟩ (fun hHeld=>?_)
            clear hK K
            refine norm_ (a':=?_) ?_ ?_
            rotate_left
            ·
             show Act.put _ (some 64) _=_
             simp only [Act.put,List.setIfInBounds_toArray,List.set_cons_zero,List.set_cons_succ,i64_w,i32_w]
             rfl
            refine pure_ (i:=10) (N:=some 65) (v:=?_) (a':=?_) #[true,true,true,true,true,true,true,true,true,true,true,false,false,false,false,false,false,false,false,false] rfl rfl (any_of HT_.out (by kernel_rfl)) (fun _ _ _ h=>h) (Or.inl ⟨by rfl,?_⟩) ?_ ?_
            rotate_left
            ·
             intro w'
             go_simp
             with_reducible rfl
            rotate_left
            ·
             simp only [Act.put,List.setIfInBounds_toArray,List.set_cons_zero,List.set_cons_succ,i64_w,i32_w]
             rfl
            refine pure_ (i:=11) (N:=some 66) (v:=?_) (a':=?_) #[true,true,true,true,true,true,true,true,true,true,true,true,false,false,false,false,false,false,false,false] rfl rfl (any_of HT_.out (by kernel_rfl)) (fun _ _ _ h=>h) (Or.inl ⟨by rfl,?_⟩) ?_ ?_
            rotate_left
            ·
             intro w'
             go_simp
             with_reducible rfl
            rotate_left
            ·
             simp only [Act.put,List.setIfInBounds_toArray,List.set_cons_zero,List.set_cons_succ,i64_w,i32_w]
             rfl
            refine pure_ (i:=12) (N:=some 67) (v:=?_) (a':=?_) #[true,true,true,true,true,true,true,true,true,true,true,true,true,false,false,false,false,false,false,false] rfl rfl (any_of HT_.out (by kernel_rfl)) (fun _ _ _ h=>h) (Or.inl ⟨by rfl,?_⟩) ?_ ?_
            rotate_left
            ·
             intro w'
             go_simp
             with_reducible rfl
            rotate_left
            ·
             simp only [Act.put,List.setIfInBounds_toArray,List.set_cons_zero,List.set_cons_succ,i64_w,i32_w]
             rfl
            refine pure_ (i:=14) (N:=some 69) (v:=?_) (a':=?_) #[true,true,true,true,true,true,true,true,true,true,true,true,true,false,true,false,false,false,false,false] rfl rfl (any_of HT_.out (by kernel_rfl)) (fun _ _ _ h=>h) (Or.inl ⟨by rfl,?_⟩) ?_ ?_
            rotate_left
            ·
             intro w'
             go_simp
             with_reducible rfl
            rotate_left
            ·
             simp only [Act.put,List.setIfInBounds_toArray,List.set_cons_zero,List.set_cons_succ,i64_w,i32_w]
             rfl
            refine pure_ (i:=15) (N:=some 70) (v:=?_) (a':=?_) #[true,true,true,true,true,true,true,true,true,true,true,true,true,false,true,true,false,false,false,false] rfl rfl (any_of HT_.out (by kernel_rfl)) (fun _ _ _ h=>h) (Or.inl ⟨by rfl,?_⟩) ?_ ?_
            rotate_left
            ·
             intro w'
             go_simp
             with_reducible rfl
            rotate_left
            ·
             simp only [Act.put,List.setIfInBounds_toArray,List.set_cons_zero,List.set_cons_succ,i64_w,i32_w]
             rfl
            refine pure_ (i:=16) (N:=some 71) (v:=?_) (a':=?_) #[true,true,true,true,true,true,true,true,true,true,true,true,true,false,true,true,true,false,false,false] rfl rfl (any_of HT_.out (by kernel_rfl)) (fun _ _ _ h=>h) (Or.inl ⟨by rfl,?_⟩) ?_ ?_
            rotate_left
            ·
             intro w'
             go_simp
             with_reducible rfl
            rotate_left
            ·
             simp only [Act.put,List.setIfInBounds_toArray,List.set_cons_zero,List.set_cons_succ,i64_w,i32_w]
             rfl
            refine take_ (i:=13) (N:=some 68) (v:=?_) (a':=?_) #[true,true,true,true,true,true,true,true,true,true,true,true,true,true,true,true,true,false,false,false] rfl rfl (take_ofW HT_.out HW_.out (by kernel_rfl)) (fun _ _ _ h=>h) (Or.inl ⟨by rfl,?_⟩) hHeld ?_ ?_
            rotate_left
            ·
             rintro w' ⟨s0,s1,s2⟩
             go_simp
             with_reducible rfl
            rotate_left
            ·
             simp only [Act.put,List.setIfInBounds_toArray,List.set_cons_zero,List.set_cons_succ,i64_w,i32_w]
             rfl
            refine take_ (i:=17) (N:=some 72) (v:=?_) (a':=?_) #[true,true,true,true,true,true,true,true,true,true,true,true,true,true,true,true,true,true,false,false] rfl rfl (take_ofW HT_.out HW_.out (by kernel_rfl)) (fun _ _ _ h=>h) (Or.inl ⟨by rfl,?_⟩) hHeld ?_ ?_
            rotate_left
            ·
             rintro w' ⟨s0,s1,s2⟩
             go_simp
             with_reducible rfl
            rotate_left
            ·
             simp only [Act.put,List.setIfInBounds_toArray,List.set_cons_zero,List.set_cons_succ,i64_w,i32_w]
             rfl
            refine pure_ (i:=18) (N:=some 73) (v:=?_) (a':=?_) #[true,true,true,true,true,true,true,true,true,true,true,true,true,true,true,true,true,true,true,false] rfl rfl (any_of HT_.out (by kernel_rfl)) (fun _ _ _ h=>h) (Or.inl ⟨by rfl,?_⟩) ?_ ?_
            rotate_left
            ·
             intro w'
             go_simp
             with_reducible rfl
            rotate_left
            ·
             simp only [Act.put,List.setIfInBounds_toArray,List.set_cons_zero,List.set_cons_succ,i64_w,i32_w]
             rfl
            refine pure_ (i:=19) (N:=some 74) (v:=?_) (a':=?_) #[true,true,true,true,true,true,true,true,true,true,true,true,true,true,true,true,true,true,true,true] rfl rfl (any_of HT_.out (by kernel_rfl)) (fun _ _ _ h=>h) (Or.inl ⟨by rfl,?_⟩) ?_ ?_
            rotate_left
            ·
             intro w'
             go_simp
             with_reducible rfl
            rotate_left
            ·
             simp only [Act.put,List.setIfInBounds_toArray,List.set_cons_zero,List.set_cons_succ,i64_w,i32_w]
             rfl
            refine done_ (done_of HT_.out (by kernel_rfl)) ?_
            try go_wp2
            go_meet
            case rel=>exact ⟨_,((a2_0.toList == (rdOf ByteArray.empty l0 (ji29)).toList)),(by first|rfl|(simp;done)|(simp only [← hji29] <;> (first|rfl|simp))|(simp [*];done)),(by first|exact H'|(rw [hji29];exact H')),⟨by have:=HJ3.out;have:=HJ17.out;first|omega|exact Nat.le_refl _⟩,⟨by (with_reducible repeat (first|refine blk_drewN ?_ _|refine blk_drew ?_|refine blk_alloc ?_ _));exact BK757.out⟩,⟨by repeat (first|(with_reducible first|exact HB.out|apply below_alloc|apply pw_below_drewN|apply below_drew1|refine below_set ?_ GE757.out)|exact HB.out)⟩⟩
           ·
            rw [if_neg c31] at H
            exact absurd H (by simp)
          ·
           rw [if_neg c30] at H
           exact absurd H (by simp)
         ·
          replace c28:=Bool.eq_false_iff.mpr c28
          subst c28
          have H1:(mosaiclaw03_MerkleBinds.j2 kj17 l0 (Int.tmod (wrap64 ((Int.tmod a1 (l0.length:Int))+(l0.length:Int))) (l0.length:Int)) true a2_0 l2_1)=some true:=by rw [if_neg (show ¬ (false=true) by decide)] at H;exact H
          clear H
          have H:=H1
          clear H1
          have H':=Aside0.mk H
          clear H
          try go_wp2
          have n0_:=Aside0.mk (blk_drew BK757.out)
          have n1_:=Aside0.mk (below_drew1 HB.out)
          clear BK757
          clear HB
          have BK757:=n0_
          have HB:=n1_
          clear n0_ n1_
          refine start_ (n:=20) (S:=fun w'=>w'.cell? ⟨gb757,0,none⟩=some (.string a2_0)∧w'.cell? ⟨gb757,1,none⟩=some (.slice A2_1 l2_1.length c2_1)) (ds:=[]) #[false,false,false,false,false,false,false,false,false,false,false,false,false,false,false,false,false,false,false,false] (by kernel_rfl) rfl rfl ⟨(blk_cell BK757.out 0).trans rfl,(blk_cell BK757.out 1).trans rfl⟩ (fun hHeld=>?_);refine with_tabW mosaiclaw03_MerkleBinds.tab7 mosaiclaw03_MerkleBinds.bits7 (fun HT_ HW_=>?_)
          generalize wc.drew=w35 at BK757 HB hHeld ⊢
          refine pure_ (i:=0) (N:=some 55) (v:=?_) (a':=?_) #[true,false,false,false,false,false,false,false,false,false,false,false,false,false,false,false,false,false,false,false] rfl rfl (any_of HT_.out (by kernel_rfl)) (fun _ _ _ h=>h) (Or.inl ⟨by rfl,?_⟩) ?_ ?_
          rotate_left
          ·
           intro w'
           go_simp
           with_reducible rfl
          rotate_left
          ·
           simp only [Act.put,List.setIfInBounds_toArray,List.set_cons_zero,List.set_cons_succ,i64_w,i32_w]
           rfl
          refine pure_ (i:=1) (N:=some 56) (v:=?_) (a':=?_) #[true,true,false,false,false,false,false,false,false,false,false,false,false,false,false,false,false,false,false,false] rfl rfl (any_of HT_.out (by kernel_rfl)) (fun _ _ _ h=>h) (Or.inl ⟨by rfl,?_⟩) ?_ ?_
          rotate_left
          ·
           intro w'
           go_simp
           with_reducible rfl
          rotate_left
          ·
           simp only [Act.put,List.setIfInBounds_toArray,List.set_cons_zero,List.set_cons_succ,i64_w,i32_w]
           rfl
          refine pure_ (i:=2) (N:=some 57) (v:=?_) (a':=?_) #[true,true,true,false,false,false,false,false,false,false,false,false,false,false,false,false,false,false,false,false] rfl rfl (any_of HT_.out (by kernel_rfl)) (fun _ _ _ h=>h) (Or.inl ⟨by rfl,?_⟩) ?_ ?_
          rotate_left
          ·
           intro w'
           go_simp
           with_reducible rfl
          rotate_left
          ·
           simp only [Act.put,List.setIfInBounds_toArray,List.set_cons_zero,List.set_cons_succ,i64_w,i32_w]
           rfl
          refine pure_ (i:=3) (N:=some 58) (v:=?_) (a':=?_) #[true,true,true,true,false,false,false,false,false,false,false,false,false,false,false,false,false,false,false,false] rfl rfl (any_of HT_.out (by kernel_rfl)) (fun _ _ _ h=>h) (Or.inl ⟨by rfl,?_⟩) ?_ ?_
          rotate_left
          ·
           intro w'
           go_simp
           with_reducible rfl
          rotate_left
          ·
           simp only [Act.put,List.setIfInBounds_toArray,List.set_cons_zero,List.set_cons_succ,i64_w,i32_w]
           rfl
          refine pure_ (i:=4) (N:=some 59) (v:=?_) (a':=?_) #[true,true,true,true,true,false,false,false,false,false,false,false,false,false,false,false,false,false,false,false] rfl rfl (any_of HT_.out (by kernel_rfl)) (fun _ _ _ h=>h) (Or.inl ⟨by rfl,?_⟩) ?_ ?_
          rotate_left
          ·
           intro w'
           go_simp
           with_reducible rfl
          rotate_left
          ·
           simp only [Act.put,List.setIfInBounds_toArray,List.set_cons_zero,List.set_cons_succ,i64_w,i32_w]
           rfl
          refine pure_ (i:=7) (N:=some 62) (v:=?_) (a':=?_) #[true,true,true,true,true,false,false,true,false,false,false,false,false,false,false,false,false,false,false,false] rfl rfl (any_of HT_.out (by kernel_rfl)) (fun _ _ _ h=>h) (Or.inl ⟨by rfl,?_⟩) ?_ ?_
          rotate_left
          ·
           intro w'
           go_simp
           with_reducible rfl
          rotate_left
          ·
           simp only [Act.put,List.setIfInBounds_toArray,List.set_cons_zero,List.set_cons_succ,i64_w,i32_w]
           rfl
          refine take_ (i:=5) (N:=some 60) (v:=?_) (a':=?_) #[true,true,true,true,true,true,false,true,false,false,false,false,false,false,false,false,false,false,false,false] rfl rfl (take_ofW HT_.out HW_.out (by kernel_rfl)) (fun _ _ _ h=>h) (Or.inl ⟨by rfl,?_⟩) hHeld ?_ ?_
          rotate_left
          ·
           rintro w' ⟨s0,s1⟩
           go_simp
           with_reducible rfl
          rotate_left
          ·
           simp only [Act.put,List.setIfInBounds_toArray,List.set_cons_zero,List.set_cons_succ,i64_w,i32_w]
           rfl
          refine take_ (i:=8) (N:=some 63) (v:=?_) (a':=?_) #[true,true,true,true,true,true,false,true,true,false,false,false,false,false,false,false,false,false,false,false] rfl rfl (take_ofW HT_.out HW_.out (by kernel_rfl)) (fun _ _ _ h=>h) (Or.inl ⟨by rfl,?_⟩) hHeld ?_ ?_
          rotate_left
          ·
           rintro w' ⟨s0,s1⟩
           go_simp
           with_reducible rfl
          rotate_left
          ·
           simp only [Act.put,List.setIfInBounds_toArray,List.set_cons_zero,List.set_cons_succ,i64_w,i32_w]
           rfl
          refine one_ (i:=6) (N:=some 61) #[true,true,true,true,true,true,true,true,true,false,false,false,false,false,false,false,false,false,false,false] rfl rfl (one_of HT_.out (by kernel_rfl)) (by decide) (fun K hK=>?_)
          refine goes_ Try.func48 (by kernel_rfl) rfl #[.string a2_0] (by rfl) rfl rfl (by (try simp only [List.map_toArray,List.map_cons,List.map_nil]);first|done|rfl|(simp only [List.length_drop,List.length_take];rfl)) ?_
          with_reducible refine (merkle_Leaf.calls a2_0 t764 _ A26.out).mono ?_
          rintro e w36 ⟨rfl,hb⟩
          refine ⟨_,rfl,?_⟩
          have n0_:=Aside0.mk (blk_below (g:=gb757) (o:=.cells #[.string a2_0,.slice A2_1 l2_1.length c2_1] 109 (0,0)) (by (with_reducible repeat (first|refine blk_drewN ?_ _|refine blk_drew ?_|refine blk_alloc ?_ _));exact BK757.out) hb)
          have n1_:=Aside0.mk (below_step (by repeat (first|(with_reducible first|exact HB.out|apply below_alloc|apply pw_below_drewN|apply below_drew1|refine below_set ?_ GE757.out)|exact HB.out)) hb)
          clear BK757
          clear HB
          have BK757:=n0_
          have HB:=n1_
          clear n0_ n1_
          (try clear hb)
          (try clear hb2)
          (try clear hk)
          (try clear hi)
          refine hK.out _ _ ⟨(blk_cell BK757.out 0).trans rfl,(blk_cell BK757.out 1).trans rfl⟩ (fun hHeld=>?_)
          clear hK K
          refine norm_ (a':=?_) ?_ ?_
          rotate_left
          ·
           show Act.put _ (some 61) _=_
           simp only [Act.put,List.setIfInBounds_toArray,List.set_cons_zero,List.set_cons_succ,i64_w,i32_w]
           rfl
          refine one_ (i:=9) (N:=some 64) #[true,true,true,true,true,true,true,true,true,true,false,false,false,false,false,false,false,false,false,false] rfl rfl (one_of HT_.out (by kernel_rfl)) (by decide) (fun K hK=>?_)
          refine goes_ Try.func79 (by kernel_rfl) rfl #[.string t761,.int .i64 (l0.length:Int),.int .i64 (Int.tmod (wrap64 ((Int.tmod a1 (l0.length:Int))+(l0.length:Int))) (l0.length:Int)),.string t764,.slice A2_1 l2_1.length c2_1] (by rfl) rfl rfl (by (try simp only [List.map_toArray,List.map_cons,List.map_nil]);first|done|rfl|(simp only [List.length_drop,List.length_take];rfl)) ?_
          with_reducible refine (merkle_Check.calls kj17 t761 (l0.length:Int) (Int.tmod (wrap64 ((Int.tmod a1 (l0.length:Int))+(l0.length:Int))) (l0.length:Int)) t764 _ _ l2_1 false _ ?side1 ?side2 A27.out).mono ?_
          (case side1=>repeat (first|exact (Kd.C_below HR2_1.out HB.out)|(with_reducible refine Kd.C_alloc ?_ _)|(with_reducible refine Kd.C_drewN ?_ _)|(with_reducible refine Kd.C_drew ?_)))
          (case side2=>exact HC2_1.out)
          rintro e w37 ⟨rfl,hb⟩
          refine ⟨_,rfl,?_⟩
          have n0_:=Aside0.mk (blk_below (g:=gb757) (o:=.cells #[.string a2_0,.slice A2_1 l2_1.length c2_1] 109 (0,0)) (by (with_reducible repeat (first|refine blk_drewN ?_ _|refine blk_drew ?_|refine blk_alloc ?_ _));exact BK757.out) hb)
          have n1_:=Aside0.mk (below_step (by repeat (first|(with_reducible first|exact HB.out|apply below_alloc|apply pw_below_drewN|apply below_drew1|refine below_set ?_ GE757.out)|exact HB.out)) hb)
          clear BK757
          clear HB
          have BK757:=n0_
          have HB:=n1_
          clear n0_ n1_
          (try clear hb)
          (try clear hb2)
          (try clear hk)
          (try clear hi)
          refine hK.out _ _ ⟨(blk_cell BK757.out 0).trans rfl,(blk_cell BK757.out 1).trans rfl⟩ (fun hHeld=>?_)
          clear hK K
          refine norm_ (a':=?_) ?_ ?_
          rotate_left
          ·
           show Act.put _ (some 64) _=_
           simp only [Act.put,List.setIfInBounds_toArray,List.set_cons_zero,List.set_cons_succ,i64_w,i32_w]
           rfl
          refine pure_ (i:=10) (N:=some 65) (v:=?_) (a':=?_) #[true,true,true,true,true,true,true,true,true,true,true,false,false,false,false,false,false,false,false,false] rfl rfl (any_of HT_.out (by kernel_rfl)) (fun _ _ _ h=>h) (Or.inl ⟨by rfl,?_⟩) ?_ ?_
          rotate_left
          ·
           intro w'
           go_simp
           with_reducible rfl
          rotate_left
          ·
           simp only [Act.put,List.setIfInBounds_toArray,List.set_cons_zero,List.set_cons_succ,i64_w,i32_w]
           rfl
          refine pure_ (i:=11) (N:=some 66) (v:=?_) (a':=?_) #[true,true,true,true,true,true,true,true,true,true,true,true,false,false,false,false,false,false,false,false] rfl rfl (any_of HT_.out (by kernel_rfl)) (fun _ _ _ h=>h) (Or.inl ⟨by rfl,?_⟩) ?_ ?_
          rotate_left
          ·
           intro w'
           go_simp
           with_reducible rfl
          rotate_left
          ·
           simp only [Act.put,List.setIfInBounds_toArray,List.set_cons_zero,List.set_cons_succ,i64_w,i32_w]
           rfl
          refine pure_ (i:=12) (N:=some 67) (v:=undef) (a':=?_) #[true,true,true,true,true,true,true,true,true,true,true,true,true,false,false,false,false,false,false,false] rfl rfl (any_of HT_.out (by kernel_rfl)) (fun _ _ _ h=>h) (Or.inr ⟨by rfl,rfl⟩) ?_ ?_
          rotate_left
          ·
           simp only [Act.put,List.setIfInBounds_toArray,List.set_cons_zero,List.set_cons_succ,i64_w,i32_w]
           rfl
          refine pure_ (i:=13) (N:=some 68) (v:=undef) (a':=?_) #[true,true,true,true,true,true,true,true,true,true,true,true,true,true,false,false,false,false,false,false] rfl rfl (any_of HT_.out (by kernel_rfl)) (fun _ _ _ h=>h) (Or.inr ⟨by rfl,rfl⟩) ?_ ?_
          rotate_left
          ·
           simp only [Act.put,List.setIfInBounds_toArray,List.set_cons_zero,List.set_cons_succ,i64_w,i32_w]
           rfl
          refine pure_ (i:=14) (N:=some 69) (v:=undef) (a':=?_) #[true,true,true,true,true,true,true,true,true,true,true,true,true,true,true,false,false,false,false,false] rfl rfl (any_of HT_.out (by kernel_rfl)) (fun _ _ _ h=>h) (Or.inr ⟨by rfl,rfl⟩) ?_ ?_
          rotate_left
          ·
           simp only [Act.put,List.setIfInBounds_toArray,List.set_cons_zero,List.set_cons_succ,i64_w,i32_w]
           rfl
          refine pure_ (i:=15) (N:=some 70) (v:=undef) (a':=?_) #[true,true,true,true,true,true,true,true,true,true,true,true,true,true,true,true,false,false,false,false] rfl rfl (any_of HT_.out (by kernel_rfl)) (fun _ _ _ h=>h) (Or.inr ⟨by rfl,rfl⟩) ?_ ?_
          rotate_left
          ·
           simp only [Act.put,List.setIfInBounds_toArray,List.set_cons_zero,List.set_cons_succ,i64_w,i32_w]
           rfl
          refine pure_ (i:=16) (N:=some 71) (v:=undef) (a':=?_) #[true,true,true,true,true,true,true,true,true,true,true,true,true,true,true,true,true,false,false,false] rfl rfl (any_of HT_.out (by kernel_rfl)) (fun _ _ _ h=>h) (Or.inr ⟨by rfl,rfl⟩) ?_ ?_
          rotate_left
          ·
           simp only [Act.put,List.setIfInBounds_toArray,List.set_cons_zero,List.set_cons_succ,i64_w,i32_w]
           rfl
          refine pure_ (i:=17) (N:=some 72) (v:=undef) (a':=?_) #[true,true,true,true,true,true,true,true,true,true,true,true,true,true,true,true,true,true,false,false] rfl rfl (any_of HT_.out (by kernel_rfl)) (fun _ _ _ h=>h) (Or.inr ⟨by rfl,rfl⟩) ?_ ?_
          rotate_left
          ·
           simp only [Act.put,List.setIfInBounds_toArray,List.set_cons_zero,List.set_cons_succ,i64_w,i32_w]
           rfl
          refine pure_ (i:=18) (N:=some 73) (v:=undef) (a':=?_) #[true,true,true,true,true,true,true,true,true,true,true,true,true,true,true,true,true,true,true,false] rfl rfl (any_of HT_.out (by kernel_rfl)) (fun _ _ _ h=>h) (Or.inr ⟨by rfl,rfl⟩) ?_ ?_
          rotate_left
          ·
           simp only [Act.put,List.setIfInBounds_toArray,List.set_cons_zero,List.set_cons_succ,i64_w,i32_w]
           rfl
          refine pure_ (i:=19) (N:=some 74) (v:=?_) (a':=?_) #[true,true,true,true,true,true,true,true,true,true,true,true,true,true,true,true,true,true,true,true] rfl rfl (any_of HT_.out (by kernel_rfl)) (fun _ _ _ h=>h) (Or.inl ⟨by rfl,?_⟩) ?_ ?_
          rotate_left
          ·
           intro w'
           go_simp
           with_reducible rfl
          rotate_left
          ·
           simp only [Act.put,List.setIfInBounds_toArray,List.set_cons_zero,List.set_cons_succ,i64_w,i32_w]
           rfl
          refine done_ (done_of HT_.out (by kernel_rfl)) ?_
          try go_wp2
          go_meet
          case rel=>exact ⟨_,(true),(by first|rfl|(simp;done)|(simp [*];done)),(by first|exact H'|(rw [hji29];exact H')),⟨by have:=HJ3.out;have:=HJ17.out;first|omega|exact Nat.le_refl _⟩,⟨by (with_reducible repeat (first|refine blk_drewN ?_ _|refine blk_drew ?_|refine blk_alloc ?_ _));exact BK757.out⟩,⟨by repeat (first|(with_reducible first|exact HB.out|apply below_alloc|apply pw_below_drewN|apply below_drew1|refine below_set ?_ GE757.out)|exact HB.out)⟩⟩
        case rest =>
         clear HC25
         try clear c1
         try clear c2
         try clear p2
         try clear c3
         try clear c4
         try clear p6
         try clear c7
         try clear p7
         try clear q7
         try clear hx7
         try clear c8
         try clear c8b0
         try clear c8b1
         try clear c8b2
         try clear c9
         try clear c9b0
         try clear c9b1
         try clear c13
         try clear c16
         try clear c16b0
         try clear c16b1
         try clear c16b2
         try clear c21
         try clear c24
         try clear c28
         try clear c30
         try clear c30b0
         try clear c31
         try clear c31b0
         try clear hcz10_0
         try clear hcz10_1
         try clear hcz12_0
         try clear hcz12_1
         try clear hfz10_0
         try clear hfz10_1
         try clear hfz12_0
         try clear hfz12_1
         try clear hx766_0
         try clear p2
         try clear p6
         try clear p766
         try clear q766
         obtain ⟨kq,x74_24,rfl,HA,HJ24,BK757,HB⟩:=hcut
         cases kq with
         | zero=>exact absurd HA.out (by simp [mosaiclaw03_MerkleBinds.j2])
         | succ kj24 =>
          have H:=HA.out
          clear HA
          simp only [mosaiclaw03_MerkleBinds.j2] at H
          by_cases c38:x74_24=true
          ·
           subst c38
           have H1:(some true)=some true:=rfl
           clear H
           have H:=H1
           clear H1
           clear H
           go_wp2
           go_ret
           exact ⟨by first|rfl|(simp [errW_none,errW_some] <;> rfl)|(simp [*,errW_none,errW_some] <;> rfl),by repeat (first|(with_reducible first|exact HB.out|apply below_alloc|apply pw_below_drewN|apply below_drew1|refine below_set ?_ GE757.out)|exact HB.out)⟩
          ·
           replace c38:=Bool.eq_false_iff.mpr c38
           subst c38
           have H1:((merkle_Texts.f kj24 l0).bind fun t767=>((merkle_Road.f kj24 (l0.length:Int) (Int.tmod (wrap64 ((Int.tmod a1 (l0.length:Int))+(l0.length:Int))) (l0.length:Int)) a2_0 l2_1).bind fun t770=>(if t767.length+t770.length < 8796093022208 then ((merkle_Witness.f kj24 (t767 ++ t770)).bind fun bt776=>(if bt776.2.2=true then (if bt776.1.toList=bt776.2.1.toList then (some false) else ((mosaicref01_Sum.f kj24 bt776.1).bind fun t779=>((mosaicref01_Sum.f kj24 bt776.2.1).bind fun t780=>(some (t779.toList == t780.toList))))) else (some false))) else (none))))=some true:=by rw [if_neg (show ¬ (false=true) by decide)] at H;exact H
           clear H
           have H:=H1
           clear H1
           replace H:=Option.bind_eq_some_iff.mp H
           obtain ⟨t767,A390,H⟩:=H
           replace H:((merkle_Road.f kj24 (l0.length:Int) (Int.tmod (wrap64 ((Int.tmod a1 (l0.length:Int))+(l0.length:Int))) (l0.length:Int)) a2_0 l2_1).bind fun t770=>(if t767.length+t770.length < 8796093022208 then ((merkle_Witness.f kj24 (t767 ++ t770)).bind fun bt776=>(if bt776.2.2=true then (if bt776.1.toList=bt776.2.1.toList then (some false) else ((mosaicref01_Sum.f kj24 bt776.1).bind fun t779=>((mosaicref01_Sum.f kj24 bt776.2.1).bind fun t780=>(some (t779.toList == t780.toList))))) else (some false))) else (none)))=some true:=H
           have A39:=Aside0.mk A390
           clear A390
           replace H:=Option.bind_eq_some_iff.mp H
           obtain ⟨t770,A400,H⟩:=H
           replace H:(if t767.length+t770.length < 8796093022208 then ((merkle_Witness.f kj24 (t767 ++ t770)).bind fun bt776=>(if bt776.2.2=true then (if bt776.1.toList=bt776.2.1.toList then (some false) else ((mosaicref01_Sum.f kj24 bt776.1).bind fun t779=>((mosaicref01_Sum.f kj24 bt776.2.1).bind fun t780=>(some (t779.toList == t780.toList))))) else (some false))) else (none))=some true:=H
           have A40:=Aside0.mk A400
           clear A400
           by_cases c41:t767.length+t770.length < 8796093022208
           ·
            rw [if_pos c41] at H
            have LMc41:=Aside0.mk c41
            clear c41
            obtain ⟨y773,hy773⟩:∃ y_:List ByteArray,y_=(t767 ++ t770):=⟨_,rfl⟩
            replace H:((merkle_Witness.f kj24 y773).bind fun bt776=>(if bt776.2.2=true then (if bt776.1.toList=bt776.2.1.toList then (some false) else ((mosaicref01_Sum.f kj24 bt776.1).bind fun t779=>((mosaicref01_Sum.f kj24 bt776.2.1).bind fun t780=>(some (t779.toList == t780.toList))))) else (some false)))=some true:=by first|(rw [hy773];with_reducible exact H)|(have H2_:=(Option.bind_some _ _).symm.trans H;rw [hy773];with_reducible exact H2_)|(have H2_:=(Option.bind_some _ _).symm.trans H;with_reducible exact H2_)|with_reducible exact H|(rw [hy773];exact H)|exact H
            have Ny773:=Aside0.mk hy773
            clear hy773
            replace H:=Option.bind_eq_some_iff.mp H
            obtain ⟨⟨t776,t777,t778⟩,A420,H⟩:=H
            replace H:(if t778=true then (if t776.toList=t777.toList then (some false) else ((mosaicref01_Sum.f kj24 t776).bind fun t779=>((mosaicref01_Sum.f kj24 t777).bind fun t780=>(some (t779.toList == t780.toList))))) else (some false))=some true:=H
            have A42:=Aside0.mk A420
            clear A420
            by_cases c43:t778=true
            ·
             subst c43
             have H1:(if t776.toList=t777.toList then (some false) else ((mosaicref01_Sum.f kj24 t776).bind fun t779=>((mosaicref01_Sum.f kj24 t777).bind fun t780=>(some (t779.toList == t780.toList)))))=some true:=by rw [if_pos rfl] at H;exact H
             clear H
             have H:=H1
             clear H1
             by_cases c44:t776.toList=t777.toList
             ·
              rw [if_pos c44] at H
              have c44b0:(t776.toList == t777.toList)=true:=beq_iff_eq.mpr c44
              have c44b1:(t776.toList != t777.toList)=false:=bne_eq_false_iff_eq.mpr c44
              clear c44
              exact absurd (Option.some.inj H) (by simp)
             ·
              rw [if_neg c44] at H
              have c44b0:(t776.toList == t777.toList)=false:=beq_eq_false_iff_ne.mpr c44
              have c44b1:(t776.toList != t777.toList)=true:=bne_iff_ne.mpr c44
              replace H:=Option.bind_eq_some_iff.mp H
              obtain ⟨t779,A520,H⟩:=H
              replace H:((mosaicref01_Sum.f kj24 t777).bind fun t780=>(some (t779.toList == t780.toList)))=some true:=H
              have A52:=Aside0.mk A520
              clear A520
              replace H:=Option.bind_eq_some_iff.mp H
              obtain ⟨t780,A530,H⟩:=H
              replace H:(some (t779.toList == t780.toList))=some true:=H
              have A53:=Aside0.mk A530
              clear A530
              first|(obtain rfl:=Option.some.inj H)|(have HT_:=Option.some.inj H)
              try go_wp2
              have n0_:=Aside0.mk (blk_drew BK757.out)
              have n1_:=Aside0.mk (below_drew1 HB.out)
              clear BK757
              clear HB
              have BK757:=n0_
              have HB:=n1_
              clear n0_ n1_
              refine start_ (n:=19) (S:=fun w'=>w'.cell? ⟨gb757,0,none⟩=some (.string a2_0)∧w'.cell? ⟨gb757,1,none⟩=some (.slice A2_1 l2_1.length c2_1)) (ds:=[]) #[false,false,false,false,false,false,false,false,false,false,false,false,false,false,false,false,false,false,false] (by kernel_rfl) rfl rfl ⟨(blk_cell BK757.out 0).trans rfl,(blk_cell BK757.out 1).trans rfl⟩ (fun hHeld=>?_);refine with_tabW mosaiclaw03_MerkleBinds.tab9 mosaiclaw03_MerkleBinds.bits9 (fun HT_ HW_=>?_)
              generalize wc.drew=w54 at BK757 HB hHeld ⊢
              refine pure_ (i:=0) (N:=some 76) (v:=?_) (a':=?_) #[true,false,false,false,false,false,false,false,false,false,false,false,false,false,false,false,false,false,false] rfl rfl (any_of HT_.out (by kernel_rfl)) (fun _ _ _ h=>h) (Or.inl ⟨by rfl,?_⟩) ?_ ?_
              rotate_left
              ·
               intro w'
               go_simp
               with_reducible rfl
              rotate_left
              ·
               simp only [Act.put,List.setIfInBounds_toArray,List.set_cons_zero,List.set_cons_succ,i64_w,i32_w]
               rfl
              refine pure_ (i:=2) (N:=some 78) (v:=?_) (a':=?_) #[true,false,true,false,false,false,false,false,false,false,false,false,false,false,false,false,false,false,false] rfl rfl (any_of HT_.out (by kernel_rfl)) (fun _ _ _ h=>h) (Or.inl ⟨by rfl,?_⟩) ?_ ?_
              rotate_left
              ·
               intro w'
               go_simp
               with_reducible rfl
              rotate_left
              ·
               simp only [Act.put,List.setIfInBounds_toArray,List.set_cons_zero,List.set_cons_succ,i64_w,i32_w]
               rfl
              refine pure_ (i:=3) (N:=some 79) (v:=?_) (a':=?_) #[true,false,true,true,false,false,false,false,false,false,false,false,false,false,false,false,false,false,false] rfl rfl (any_of HT_.out (by kernel_rfl)) (fun _ _ _ h=>h) (Or.inl ⟨by rfl,?_⟩) ?_ ?_
              rotate_left
              ·
               intro w'
               go_simp
               with_reducible rfl
              rotate_left
              ·
               simp only [Act.put,List.setIfInBounds_toArray,List.set_cons_zero,List.set_cons_succ,i64_w,i32_w]
               rfl
              refine pure_ (i:=4) (N:=some 80) (v:=?_) (a':=?_) #[true,false,true,true,true,false,false,false,false,false,false,false,false,false,false,false,false,false,false] rfl rfl (any_of HT_.out (by kernel_rfl)) (fun _ _ _ h=>h) (Or.inl ⟨by rfl,?_⟩) ?_ ?_
              rotate_left
              ·
               intro w'
               go_simp
               with_reducible rfl
              rotate_left
              ·
               simp only [Act.put,List.setIfInBounds_toArray,List.set_cons_zero,List.set_cons_succ,i64_w,i32_w]
               rfl
              refine pure_ (i:=5) (N:=some 81) (v:=?_) (a':=?_) #[true,false,true,true,true,true,false,false,false,false,false,false,false,false,false,false,false,false,false] rfl rfl (any_of HT_.out (by kernel_rfl)) (fun _ _ _ h=>h) (Or.inl ⟨by rfl,?_⟩) ?_ ?_
              rotate_left
              ·
               intro w'
               go_simp
               with_reducible rfl
              rotate_left
              ·
               simp only [Act.put,List.setIfInBounds_toArray,List.set_cons_zero,List.set_cons_succ,i64_w,i32_w]
               rfl
              refine pure_ (i:=7) (N:=some 83) (v:=?_) (a':=?_) #[true,false,true,true,true,true,false,true,false,false,false,false,false,false,false,false,false,false,false] rfl rfl (any_of HT_.out (by kernel_rfl)) (fun _ _ _ h=>h) (Or.inl ⟨by rfl,?_⟩) ?_ ?_
              rotate_left
              ·
               intro w'
               go_simp
               with_reducible rfl
              rotate_left
              ·
               simp only [Act.put,List.setIfInBounds_toArray,List.set_cons_zero,List.set_cons_succ,i64_w,i32_w]
               rfl
              refine take_ (i:=6) (N:=some 82) (v:=?_) (a':=?_) #[true,false,true,true,true,true,true,true,false,false,false,false,false,false,false,false,false,false,false] rfl rfl (take_ofW HT_.out HW_.out (by kernel_rfl)) (fun _ _ _ h=>h) (Or.inl ⟨by rfl,?_⟩) hHeld ?_ ?_
              rotate_left
              ·
               rintro w' ⟨s0,s1⟩
               go_simp
               with_reducible rfl
              rotate_left
              ·
               simp only [Act.put,List.setIfInBounds_toArray,List.set_cons_zero,List.set_cons_succ,i64_w,i32_w]
               rfl
              refine take_ (i:=8) (N:=some 84) (v:=?_) (a':=?_) #[true,false,true,true,true,true,true,true,true,false,false,false,false,false,false,false,false,false,false] rfl rfl (take_ofW HT_.out HW_.out (by kernel_rfl)) (fun _ _ _ h=>h) (Or.inl ⟨by rfl,?_⟩) hHeld ?_ ?_
              rotate_left
              ·
               rintro w' ⟨s0,s1⟩
               go_simp
               with_reducible rfl
              rotate_left
              ·
               simp only [Act.put,List.setIfInBounds_toArray,List.set_cons_zero,List.set_cons_succ,i64_w,i32_w]
               rfl
              refine one_ (i:=1) (N:=some 77) #[true,true,true,true,true,true,true,true,true,false,false,false,false,false,false,false,false,false,false] rfl rfl (one_of HT_.out (by kernel_rfl)) (by decide) (fun K hK=>?_)
              refine goes_ Try.func73 (by kernel_rfl) rfl #[.slice A0 l0.length c0] (by rfl) rfl rfl (by (try simp only [List.map_toArray,List.map_cons,List.map_nil]);first|done|rfl|(simp only [List.length_drop,List.length_take];rfl)) ?_
              with_reducible refine (merkle_Texts.calls kj24 _ _ l0 t767 _ ?side1 ?side2 A39.out).mono ?_
              (case side1=>repeat (first|exact (Kd.C_below HR0.out HB.out)|(with_reducible refine Kd.C_alloc ?_ _)|(with_reducible refine Kd.C_drewN ?_ _)|(with_reducible refine Kd.C_drew ?_)))
              (case side2=>exact HC0.out)
              rintro e w55 ⟨v768,rfl,ho0,hb⟩
              refine ⟨_,rfl,?_⟩
              have n0_:=Aside0.mk (Kd.R_lower ho0 (below_size (by repeat (first|(with_reducible first|exact HB.out|apply below_alloc|apply pw_below_drewN|apply below_drew1|refine below_set ?_ GE757.out)|exact HB.out))))
              have n1_:=Aside0.mk (blk_below (g:=gb757) (o:=.cells #[.string a2_0,.slice A2_1 l2_1.length c2_1] 109 (0,0)) (by (with_reducible repeat (first|refine blk_drewN ?_ _|refine blk_drew ?_|refine blk_alloc ?_ _));exact BK757.out) hb)
              have n2_:=Aside0.mk (below_step (by repeat (first|(with_reducible first|exact HB.out|apply below_alloc|apply pw_below_drewN|apply below_drew1|refine below_set ?_ GE757.out)|exact HB.out)) hb)
              clear BK757
              clear HB
              have HO769:=n0_
              have BK757:=n1_
              have HB:=n2_
              clear n0_ n1_ n2_
              (try clear hb)
              (try clear hb2)
              (try clear hk)
              (try clear hi)
              (try clear ho0)
              refine hK.out _ _ ⟨(blk_cell BK757.out 0).trans rfl,(blk_cell BK757.out 1).trans rfl⟩ (fun hHeld=>?_)
              clear hK K
              refine norm_ (a':=?_) ?_ ?_
              rotate_left
              ·
               show Act.put _ (some 77) _=_
               simp only [Act.put,List.setIfInBounds_toArray,List.set_cons_zero,List.set_cons_succ,i64_w,i32_w]
               rfl
              refine one_ (i:=9) (N:=some 85) #[true,true,true,true,true,true,true,true,true,true,false,false,false,false,false,false,false,false,false] rfl rfl (one_of HT_.out (by kernel_rfl)) (by decide) (fun K hK=>?_)
              refine goes_ Try.func81 (by kernel_rfl) rfl #[.int .i64 (l0.length:Int),.int .i64 (Int.tmod (wrap64 ((Int.tmod a1 (l0.length:Int))+(l0.length:Int))) (l0.length:Int)),.string a2_0,.slice A2_1 l2_1.length c2_1] (by rfl) rfl rfl (by (try simp only [List.map_toArray,List.map_cons,List.map_nil]);first|done|rfl|(simp only [List.length_drop,List.length_take];rfl)) ?_
              with_reducible refine (merkle_Road.calls kj24 (l0.length:Int) (Int.tmod (wrap64 ((Int.tmod a1 (l0.length:Int))+(l0.length:Int))) (l0.length:Int)) a2_0 _ _ l2_1 t770 _ ?side1 ?side2 A40.out).mono ?_
              (case side1=>repeat (first|exact (Kd.C_below HR2_1.out HB.out)|(with_reducible refine Kd.C_alloc ?_ _)|(with_reducible refine Kd.C_drewN ?_ _)|(with_reducible refine Kd.C_drew ?_)))
              (case side2=>exact HC2_1.out)
              rintro e w56 ⟨v771,rfl,ho0,hb⟩
              refine ⟨_,rfl,?_⟩
              have n0_:=Aside0.mk (Kd.R_elder' (by (with_reducible repeat (first|apply Kd.R_alloc|apply Kd.R_drewN|apply Kd.R_drew));exact HO769.out) (Kd.R_base ho0) hb)
              have n1_:=Aside0.mk (Kd.R_lower (Kd.R_new' ho0 (Kd.R_lt (by (with_reducible repeat (first|apply Kd.R_alloc|apply Kd.R_drewN|apply Kd.R_drew));exact HO769.out))) (below_size (by repeat (first|(with_reducible first|exact HB.out|apply below_alloc|apply pw_below_drewN|apply below_drew1|refine below_set ?_ GE757.out)|exact HB.out))))
              have n2_:=Aside0.mk (blk_below (g:=gb757) (o:=.cells #[.string a2_0,.slice A2_1 l2_1.length c2_1] 109 (0,0)) (by (with_reducible repeat (first|refine blk_drewN ?_ _|refine blk_drew ?_|refine blk_alloc ?_ _));exact BK757.out) hb)
              have n3_:=Aside0.mk (below_step (by repeat (first|(with_reducible first|exact HB.out|apply below_alloc|apply pw_below_drewN|apply below_drew1|refine below_set ?_ GE757.out)|exact HB.out)) hb)
              clear HO769
              clear BK757
              clear HB
              have HO769:=n0_
              have HO772:=n1_
              have BK757:=n2_
              have HB:=n3_
              clear n0_ n1_ n2_ n3_
              (try clear hb)
              (try clear hb2)
              (try clear hk)
              (try clear hi)
              (try clear ho0)
              obtain ⟨Ao58,co58,eo58⟩:=Kd.R_slice HO772.out
              (first|subst eo58|(injection eo58 with f1_ f2_ f3_;have f4_:=f1_.symm;have f5_:=f3_.symm;clear f1_ f2_ f3_;subst f4_;subst f5_))
              refine hK.out _ _ ⟨(blk_cell BK757.out 0).trans rfl,(blk_cell BK757.out 1).trans rfl⟩ (fun hHeld=>?_)
              clear hK K
              refine norm_ (a':=?_) ?_ ?_
              rotate_left
              ·
               show Act.put _ (some 85) _=_
               simp only [Act.put,List.setIfInBounds_toArray,List.set_cons_zero,List.set_cons_succ,i64_w,i32_w]
               rfl
              refine one_ (i:=10) (N:=some 86) #[true,true,true,true,true,true,true,true,true,true,true,false,false,false,false,false,false,false,false] rfl rfl (one_of HT_.out (by kernel_rfl)) (by decide) (fun K hK=>?_)
              refine Kd.R_append_rows_step Kd.string (w0:=w) w.heap.size (by rfl) (.tmp 77) (.tmp 85) 39 9 (.string ⟨#[]⟩) 16 rfl Try.underlying39 info9 rfl (by decide) (by omega) v768 t767 t770 _ _ _ (fun k_=>some k_≠(.slice Ao58 t770.length co58:Value).ownBlock) (fun _=>False) rfl rfl ?aO ?aR (fun _ _ h=>h) (fun _ h=>h.elim) ?aF ?aB ?aS ?aL ?_
              (case aR=>repeat (first|exact (Kd.R_reads' HO772.out).2.2|(with_reducible refine Kd.C_alloc ?_ _)|(with_reducible refine Kd.C_drewN ?_ _)|(with_reducible refine Kd.C_drew ?_)))
              (case aB=>exact (by repeat (first|(with_reducible first|exact HB.out|apply below_alloc|apply pw_below_drewN|apply below_drew1|refine below_set ?_ GE757.out)|exact HB.out)))
              (case aF=>exact (fun k_ hk=>Kd.fresh' (Kd.R_lt (by (with_reducible repeat (first|apply Kd.R_alloc|apply Kd.R_drewN|apply Kd.R_drew));exact HO772.out)) k_ hk))
              (case aO=>exact (by (with_reducible repeat (first|apply Kd.R_alloc|apply Kd.R_drewN|apply Kd.R_drew));exact Kd.R_mono HO769.out (fun _ hk=>hk.2)))
              (case aS=>exact (below_size (by repeat (first|(with_reducible first|exact HB.out|apply below_alloc|apply pw_below_drewN|apply below_drew1|refine below_set ?_ GE757.out)|exact HB.out))))
              (case aL=>have:=LMc41.out;omega)
              intro v774 w57 ho hb hg hat
              rw [← Ny773.out] at ho
              have n0_:=Aside0.mk (blk_grown (g:=gb757) (o:=.cells #[.string a2_0,.slice A2_1 l2_1.length c2_1] 109 (0,0)) (by (with_reducible repeat (first|refine blk_drewN ?_ _|refine blk_drew ?_|refine blk_alloc ?_ _));exact BK757.out) hg (Kd.R_ne HO769.out BK757.out (by decide)))
              have n1_:=Aside0.mk (Kd.R_after (ok:=(fun _=>True)) (by (with_reducible repeat (first|apply Kd.R_alloc|apply Kd.R_drewN|apply Kd.R_drew));exact HO772.out) hg hat)
              have n2_:=Aside0.mk (hb)
              have n3_:=Aside0.mk (ho)
              clear BK757
              clear HO772
              clear HB
              clear HO769
              have BK757:=n0_
              have HO772:=n1_
              have HB:=n2_
              have HO775:=n3_
              clear n0_ n1_ n2_ n3_
              clear ho hb hg hat
              obtain ⟨Ao59,co59,eo59⟩:=Kd.R_slice HO775.out
              (first|subst eo59|(injection eo59 with f1_ f2_ f3_;have f4_:=f1_.symm;have f5_:=f3_.symm;clear f1_ f2_ f3_;subst f4_;subst f5_))
              refine hK.out _ _ ⟨(blk_cell BK757.out 0).trans rfl,(blk_cell BK757.out 1).trans rfl⟩ (fun hHeld=>?_)
              clear hK K
              refine norm_ (a':=?_) ?_ ?_
              rotate_left
              ·
               show Act.put _ (some 86) _=_
               simp only [Act.put,List.setIfInBounds_toArray,List.set_cons_zero,List.set_cons_succ,i64_w,i32_w]
               rfl
              refine one_ (i:=11) (N:=some 87) #[true,true,true,true,true,true,true,true,true,true,true,true,false,false,false,false,false,false,false] rfl rfl (one_of HT_.out (by kernel_rfl)) (by decide) (fun K hK=>?_)
              refine goes_ Try.func57 (by kernel_rfl) rfl #[.slice Ao59 y773.length co59] (by rfl) rfl rfl (by (try simp only [List.map_toArray,List.map_cons,List.map_nil]);first|done|rfl|(simp only [List.length_drop,List.length_take];rfl)) ?_
              with_reducible refine (merkle_Witness.calls kj24 _ _ y773 t776 t777 true _ ?side1 ?side2 A42.out).mono ?_
              (case side1=>repeat (first|exact (Kd.R_reads' HO775.out).2.2|(with_reducible refine Kd.C_alloc ?_ _)|(with_reducible refine Kd.C_drewN ?_ _)|(with_reducible refine Kd.C_drew ?_)))
              (case side2=>exact (Kd.R_reads' HO775.out).2.1)
              rintro e w60 ⟨rfl,hb⟩
              refine ⟨_,rfl,?_⟩
              have n0_:=Aside0.mk (Kd.R_below (by (with_reducible repeat (first|apply Kd.R_alloc|apply Kd.R_drewN|apply Kd.R_drew));exact HO772.out) hb)
              have n1_:=Aside0.mk (Kd.R_below (by (with_reducible repeat (first|apply Kd.R_alloc|apply Kd.R_drewN|apply Kd.R_drew));exact HO775.out) hb)
              have n2_:=Aside0.mk (blk_below (g:=gb757) (o:=.cells #[.string a2_0,.slice A2_1 l2_1.length c2_1] 109 (0,0)) (by (with_reducible repeat (first|refine blk_drewN ?_ _|refine blk_drew ?_|refine blk_alloc ?_ _));exact BK757.out) hb)
              have n3_:=Aside0.mk (below_step (by repeat (first|(with_reducible first|exact HB.out|apply below_alloc|apply pw_below_drewN|apply below_drew1|refine below_set ?_ GE757.out)|exact HB.out)) hb)
              clear HO772
              clear HO775
              clear BK757
              clear HB
              have HO772:=n0_
              have HO775:=n1_
              have BK757:=n2_
              have HB:=n3_
              clear n0_ n1_ n2_ n3_
              (try clear hb)
              (try clear hb2)
              (try clear hk)
              (try clear hi)
              refine hK.out _ _ ⟨(blk_cell BK757.out 0).trans rfl,(blk_cell BK757.out 1).trans rfl⟩ (fun hHeld=>?_)
              clear hK K
              refine norm_ (a':=?_) ?_ ?_
              rotate_left
              ·
               show Act.put _ (some 87) _=_
               simp only [Act.put,List.setIfInBounds_toArray,List.set_cons_zero,List.set_cons_succ,i64_w,i32_w]
               rfl
              refine pure_ (i:=12) (N:=some 75) (v:=?_) (a':=?_) #[true,true,true,true,true,true,true,true,true,true,true,true,true,false,false,false,false,false,false] rfl rfl (any_of HT_.out (by kernel_rfl)) (fun _ _ _ h=>h) (Or.inl ⟨by rfl,?_⟩) ?_ ?_
              rotate_left
              ·
               intro w'
               go_simp
               with_reducible rfl
              rotate_left
              ·
               simp only [Act.put,List.setIfInBounds_toArray,List.set_cons_zero,List.set_cons_succ,i64_w,i32_w]
               rfl
              refine pure_ (i:=13) (N:=some 88) (v:=?_) (a':=?_) #[true,true,true,true,true,true,true,true,true,true,true,true,true,true,false,false,false,false,false] rfl rfl (any_of HT_.out (by kernel_rfl)) (fun _ _ _ h=>h) (Or.inl ⟨by rfl,?_⟩) ?_ ?_
              rotate_left
              ·
               intro w'
               go_simp
               with_reducible rfl
              rotate_left
              ·
               simp only [Act.put,List.setIfInBounds_toArray,List.set_cons_zero,List.set_cons_succ,i64_w,i32_w]
               rfl
              refine pure_ (i:=14) (N:=some 89) (v:=?_) (a':=?_) #[true,true,true,true,true,true,true,true,true,true,true,true,true,true,true,false,false,false,false] rfl rfl (any_of HT_.out (by kernel_rfl)) (fun _ _ _ h=>h) (Or.inl ⟨by rfl,?_⟩) ?_ ?_
              rotate_left
              ·
               intro w'
               go_simp
               with_reducible rfl
              rotate_left
              ·
               simp only [Act.put,List.setIfInBounds_toArray,List.set_cons_zero,List.set_cons_succ,i64_w,i32_w]
               rfl
              refine pure_ (i:=15) (N:=some 90) (v:=?_) (a':=?_) #[true,true,true,true,true,true,true,true,true,true,true,true,true,true,true,true,false,false,false] rfl rfl (any_of HT_.out (by kernel_rfl)) (fun _ _ _ h=>h) (Or.inl ⟨by rfl,?_⟩) ?_ ?_
              rotate_left
              ·
               intro w'
               go_simp
               with_reducible rfl
              rotate_left
              ·
               simp only [Act.put,List.setIfInBounds_toArray,List.set_cons_zero,List.set_cons_succ,i64_w,i32_w]
               rfl
              refine pure_ (i:=16) (N:=some 10) (v:=?_) (a':=?_) #[true,true,true,true,true,true,true,true,true,true,true,true,true,true,true,true,true,false,false] rfl rfl (any_of HT_.out (by kernel_rfl)) (fun _ _ _ h=>h) (Or.inl ⟨by rfl,?_⟩) ?_ ?_
              rotate_left
              ·
               intro w'
               go_simp
               with_reducible rfl
              rotate_left
              ·
               simp only [Act.put,List.setIfInBounds_toArray,List.set_cons_zero,List.set_cons_succ,i64_w,i32_w]
               rfl
              refine pure_ (i:=17) (N:=some 11) (v:=?_) (a':=?_) #[true,true,true,true,true,true,true,true,true,true,true,true,true,true,true,true,true,true,false] rfl rfl (any_of HT_.out (by kernel_rfl)) (fun _ _ _ h=>h) (Or.inl ⟨by rfl,?_⟩) ?_ ?_
              rotate_left
              ·
               intro w'
               go_simp
               with_reducible rfl
              rotate_left
              ·
               simp only [Act.put,List.setIfInBounds_toArray,List.set_cons_zero,List.set_cons_succ,i64_w,i32_w]
               rfl
              refine pure_ (i:=18) (N:=some 12) (v:=?_) (a':=?_) #[true,true,true,true,true,true,true,true,true,true,true,true,true,true,true,true,true,true,true] rfl rfl (any_of HT_.out (by kernel_rfl)) (fun _ _ _ h=>h) (Or.inl ⟨by rfl,?_⟩) ?_ ?_
              rotate_left
              ·
               intro w'
               go_simp
               with_reducible rfl
              rotate_left
              ·
               simp only [Act.put,List.setIfInBounds_toArray,List.set_cons_zero,List.set_cons_succ,i64_w,i32_w]
               rfl
              refine done_ (done_of HT_.out (by kernel_rfl)) ?_
              try go_wp2_with (first|(go_at_call 27;(with_reducible refine (mosaicref01_Sum.calls kj24 t776 t779 _ A52.out).mono ?_);rintro e w61 ⟨rfl,hb⟩;have n0_:=Aside0.mk (Kd.R_below (by (with_reducible repeat (first|apply Kd.R_alloc|apply Kd.R_drewN|apply Kd.R_drew));exact HO772.out) hb);have n1_:=Aside0.mk (Kd.R_below (by (with_reducible repeat (first|apply Kd.R_alloc|apply Kd.R_drewN|apply Kd.R_drew));exact HO775.out) hb);have n2_:=Aside0.mk (blk_below (g:=gb757) (o:=.cells #[.string a2_0,.slice A2_1 l2_1.length c2_1] 109 (0,0)) (by (with_reducible repeat (first|refine blk_drewN ?_ _|refine blk_drew ?_|refine blk_alloc ?_ _));exact BK757.out) hb);have n3_:=Aside0.mk (below_step (by repeat (first|(with_reducible first|exact HB.out|apply below_alloc|apply pw_below_drewN|apply below_drew1|refine below_set ?_ GE757.out)|exact HB.out)) hb);clear HO772;clear HO775;clear BK757;clear HB;have HO772:=n0_;have HO775:=n1_;have BK757:=n2_;have HB:=n3_;clear n0_ n1_ n2_ n3_;(try clear hb);(try clear hb2);(try clear hk);(try clear hi))|(go_at_call 27;(with_reducible refine (mosaicref01_Sum.calls kj24 t777 t780 _ A53.out).mono ?_);rintro e w62 ⟨rfl,hb⟩;have n0_:=Aside0.mk (Kd.R_below (by (with_reducible repeat (first|apply Kd.R_alloc|apply Kd.R_drewN|apply Kd.R_drew));exact HO772.out) hb);have n1_:=Aside0.mk (Kd.R_below (by (with_reducible repeat (first|apply Kd.R_alloc|apply Kd.R_drewN|apply Kd.R_drew));exact HO775.out) hb);have n2_:=Aside0.mk (blk_below (g:=gb757) (o:=.cells #[.string a2_0,.slice A2_1 l2_1.length c2_1] 109 (0,0)) (by (with_reducible repeat (first|refine blk_drewN ?_ _|refine blk_drew ?_|refine blk_alloc ?_ _));exact BK757.out) hb);have n3_:=Aside0.mk (below_step (by repeat (first|(with_reducible first|exact HB.out|apply below_alloc|apply pw_below_drewN|apply below_drew1|refine below_set ?_ GE757.out)|exact HB.out)) hb);clear HO772;clear HO775;clear BK757;clear HB;have HO772:=n0_;have HO775:=n1_;have BK757:=n2_;have HB:=n3_;clear n0_ n1_ n2_ n3_;(try clear hb);(try clear hb2);(try clear hk);(try clear hi)))
              go_ret
              exact ⟨by first|rfl|(simp [errW_none,errW_some] <;> rfl)|(simp [*,errW_none,errW_some] <;> rfl),by repeat (first|(with_reducible first|exact HB.out|apply below_alloc|apply pw_below_drewN|apply below_drew1|refine below_set ?_ GE757.out)|exact HB.out)⟩
            ·
             replace c43:=Bool.eq_false_iff.mpr c43
             subst c43
             have H1:(some false)=some true:=by rw [if_neg (show ¬ (false=true) by decide)] at H;exact H
             clear H
             have H:=H1
             clear H1
             exact absurd (Option.some.inj H) (by simp)
           ·
            rw [if_neg c41] at H
            exact absurd H (by simp)
end Go.Proofs.Ytelcaepenfjloaa.Print
/-! #### StmMerkleBinds -/
namespace Go.Proofs.Ytelcaepenfjloaa.Print
open Go.RowKit Go.Proofs.YtelcaepenfjloaaW.PrintWords
/-- THE ONE PURE STATEMENT of mosaiclaw03_MerkleBinds. -/
def mosaiclaw03_MerkleBinds.Pure:Prop:=∀ (l0:List ByteArray) (a1:Int) (a2_0:ByteArray) (l2_1:List ByteArray),((l0:List ByteArray).length≤maxLen∧∀ x1_∈(l0:List ByteArray),(x1_:ByteArray).size≤maxLen)→((Lit.int .i64 a1).wf=true)→((a2_0:ByteArray).size≤maxLen)→((l2_1:List ByteArray).length≤maxLen∧∀ x2_∈(l2_1:List ByteArray),(x2_:ByteArray).size≤maxLen)→∃ k,mosaiclaw03_MerkleBinds.f k l0 a1 a2_0 l2_1=some true
end Go.Proofs.Ytelcaepenfjloaa.Print
/-! #### Pr49 -/
namespace Go.Proofs.Ytelcaepenfjloaa.Print
open Go.RowKit Go.Proofs.YtelcaepenfjloaaW.PrintWords Go.Proofs.YtelcaepenfjloaaW.PrintLast Go.Proofs.YtelcaepenfjloaaW.PrintMore
attribute [local go_sem] max2_int min2_int max_two min_two max_three min_three max_four min_four
set_option linter.unusedVariables false
set_option linter.unusedSimpArgs false
/-! ### mosaicref03_LeafText: function 49 -/
def mosaicref03_LeafText.f (a0:ByteArray):Option (ByteArray):=if 1+a0.size≤9223372036854775807 then (some ((⟨#[0]⟩:ByteArray) ++ a0)) else (none)
set_option maxHeartbeats 8000000 in
set_option maxRecDepth 100000 in
theorem mosaicref03_LeafText.calls (a0:ByteArray) (r:ByteArray) (w:World) (h:mosaicref03_LeafText.f a0=some r) :
  Calls Try.prog 49 #[.string a0] w fun e w'=>e=.returned (.string r)∧Drawn0 w w':=by
 have H:(if 1+a0.size≤9223372036854775807 then (some ((⟨#[0]⟩:ByteArray) ++ a0)) else (none))=some r:=h
 clear h
 by_cases c2:1+a0.size≤9223372036854775807
 ·
  rw [if_pos c2] at H
  have c2b0:=eq_true c2
  have c2b1:decide (1+a0.size≤9223372036854775807)=true:=decide_eq_true c2
  try have c2b2:(9223372036854775807 < 1+a0.size)=False:=eq_false (Nat.not_lt.2 c2)
  obtain rfl:=Option.some.inj H
  go_enter Try.func49,Try.ntmps49
  go_wp2
  go_ret
  exact ⟨by first|rfl|(simp;done)|(simp [*];done),by repeat (first|exact Drawn0.refl _|apply Drawn0.step)⟩
 ·
  rw [if_neg c2] at H
  exact absurd H (by simp)
end Go.Proofs.Ytelcaepenfjloaa.Print
/-! #### Pr51 -/
namespace Go.Proofs.Ytelcaepenfjloaa.Print
open Go.RowKit Go.Proofs.YtelcaepenfjloaaW.PrintWords Go.Proofs.YtelcaepenfjloaaW.PrintLast Go.Proofs.YtelcaepenfjloaaW.PrintMore
attribute [local go_sem] max2_int min2_int max_two min_two max_three min_three max_four min_four
set_option linter.unusedVariables false
set_option linter.unusedSimpArgs false
/-! ### mosaicref03_KnotText: function 51 -/
def mosaicref03_KnotText.f (a0:ByteArray) (a1:ByteArray):Option (ByteArray):=if 1+a0.size≤9223372036854775807 then (if ((⟨#[1]⟩:ByteArray) ++ a0).size+a1.size≤9223372036854775807 then (some (((⟨#[1]⟩:ByteArray) ++ a0) ++ a1)) else (none)) else (none)
set_option maxHeartbeats 8000000 in
set_option maxRecDepth 100000 in
theorem mosaicref03_KnotText.calls (a0:ByteArray) (a1:ByteArray) (r:ByteArray) (w:World) (h:mosaicref03_KnotText.f a0 a1=some r) :
  Calls Try.prog 51 #[.string a0,.string a1] w fun e w'=>e=.returned (.string r)∧Drawn0 w w':=by
 have H:(if 1+a0.size≤9223372036854775807 then (if ((⟨#[1]⟩:ByteArray) ++ a0).size+a1.size≤9223372036854775807 then (some (((⟨#[1]⟩:ByteArray) ++ a0) ++ a1)) else (none)) else (none))=some r:=h
 clear h
 by_cases c3:1+a0.size≤9223372036854775807
 ·
  rw [if_pos c3] at H
  have c3b0:=eq_true c3
  have c3b1:decide (1+a0.size≤9223372036854775807)=true:=decide_eq_true c3
  try have c3b2:(9223372036854775807 < 1+a0.size)=False:=eq_false (Nat.not_lt.2 c3)
  by_cases c4:((⟨#[1]⟩:ByteArray) ++ a0).size+a1.size≤9223372036854775807
  ·
   rw [if_pos c4] at H
   have c4b0:=eq_true c4
   have c4b1:decide (((⟨#[1]⟩:ByteArray) ++ a0).size+a1.size≤9223372036854775807)=true:=decide_eq_true c4
   try have c4b2:(9223372036854775807 < ((⟨#[1]⟩:ByteArray) ++ a0).size+a1.size)=False:=eq_false (Nat.not_lt.2 c4)
   obtain rfl:=Option.some.inj H
   go_enter Try.func51,Try.ntmps51
   go_wp2
   go_ret
   exact ⟨by first|rfl|(simp;done)|(simp [*];done),by repeat (first|exact Drawn0.refl _|apply Drawn0.step)⟩
  ·
   rw [if_neg c4] at H
   exact absurd H (by simp)
 ·
  rw [if_neg c3] at H
  exact absurd H (by simp)
end Go.Proofs.Ytelcaepenfjloaa.Print
/-! #### Pr99 -/
namespace Go.Proofs.Ytelcaepenfjloaa.Print
open Go.RowKit Go.Proofs.YtelcaepenfjloaaW.PrintWords Go.Proofs.YtelcaepenfjloaaW.PrintLast Go.Proofs.YtelcaepenfjloaaW.PrintMore
attribute [local go_sem] max2_int min2_int max_two min_two max_three min_three max_four min_four
set_option linter.unusedVariables false
set_option linter.unusedSimpArgs false
/-! ### mosaicref03_half: function 99 -/
def mosaicref03_half.l0:Nat→Int→Int→Option (Int)
 | 0,_,_=>none
 | k+1,x0,x3=>if (wrap64 (x3 * 2)) < x0 then (mosaicref03_half.l0 k x0 (wrap64 (x3 * 2))) else (some x3)
def mosaicref03_half.f (k:Nat) (a0:Int):Option (Int):=mosaicref03_half.l0 k a0 1
theorem mosaicref03_half.mono_l:∀ k,(∀ y0 y1,LeO (mosaicref03_half.l0 k y0 y1) (mosaicref03_half.l0 (k+1) y0 y1))
 | 0=>fun _ _ r h=>by simp [mosaicref03_half.l0] at h
 | k+1=>by
  have ih0:=mosaicref03_half.mono_l k
  ·
   intro y0 y1
   unfold mosaicref03_half.l0
   repeat' first
   | (with_reducible exact ih0 _ _)
   | (with_reducible exact LeO.refl _)
   | (with_reducible exact LeO.none _)
   | (with_reducible refine LeO.ite ?_ ?_)
   | (with_reducible refine LeO.bind ?_ (fun _=>?_))
   | exact ih0 _ _
   | exact LeO.none _
   | refine LeO.ite ?_ ?_
   | refine LeO.bind ?_ (fun _=>?_)
theorem mosaicref03_half.mono:∀ a0 k,LeO (mosaicref03_half.f k a0) (mosaicref03_half.f (k+1) a0):=by
 intro a0 k
 have ih0:=mosaicref03_half.mono_l k
 unfold mosaicref03_half.f
 repeat' first
   | (with_reducible exact ih0 _ _)
   | (with_reducible exact LeO.refl _)
   | (with_reducible exact LeO.none _)
   | (with_reducible refine LeO.ite ?_ ?_)
   | (with_reducible refine LeO.bind ?_ (fun _=>?_))
   | exact ih0 _ _
   | exact LeO.none _
   | refine LeO.ite ?_ ?_
   | refine LeO.bind ?_ (fun _=>?_)
set_option maxHeartbeats 8000000 in
set_option maxRecDepth 100000 in
theorem mosaicref03_half.calls (k:Nat) (a0:Int) (r:Int) (w:World) (h:mosaicref03_half.f k a0=some r) :
  Calls Try.prog 99 #[.int .i64 a0] w fun e w'=>e=.returned (.int .i64 r)∧Drawn0 w w':=by
 have H:(mosaicref03_half.l0 k a0 1)=some r:=h
 clear h
 have H':=Aside0.mk H
 clear H
 go_enter Try.func99,Try.ntmps99
 go_wp2
 go_loopg [3] k (fun kq v3 w'=>∃ (x3_1:Int),v3=.int .i64 x3_1∧Aside0 (mosaicref03_half.l0 kq a0 x3_1=some r)∧Aside0 (kq≤k)∧Drawn0 w w')
 case atStart=>exact ⟨(1),(by first|rfl|(simp;done)|(simp [*];done)),H',⟨Nat.le_refl _⟩,by repeat (first|exact Drawn0.refl _|apply Drawn0.step)⟩
 case round =>
  clear H'
  obtain ⟨x3_1,rfl,HA,HK1,⟨m1,rfl⟩⟩:=hrel
  cases gk with
  | zero=>exact absurd HA.out (by simp [mosaicref03_half.l0])
  | succ k1 =>
   have H:=HA.out
   clear HA
   simp only [mosaicref03_half.l0] at H
   by_cases c2:(wrap64 (x3_1 * 2)) < a0
   ·
    rw [if_pos c2] at H
    have c2b0:decide ((wrap64 (x3_1 * 2)) < a0)=true:=decide_eq_true c2
    clear c2
    have H':=Aside0.mk H
    clear H
    go_wp2
    go_roundg k1
    case measure=>have:=HK1.out;omega
    case rel=>exact ⟨(wrap64 (x3_1 * 2)),(by first|rfl|(simp;done)|(simp [*];done)),H',⟨by have:=HK1.out;omega⟩,by repeat (first|exact Drawn0.refl _|apply Drawn0.step)⟩
   ·
    rw [if_neg c2] at H
    have c2b0:decide ((wrap64 (x3_1 * 2)) < a0)=false:=decide_eq_false c2
    clear c2
    obtain rfl:=Option.some.inj H
    go_wp2
    go_ret
    exact ⟨by first|rfl|(simp;done)|(simp [*];done),by repeat (first|exact Drawn0.refl _|apply Drawn0.step)⟩
end Go.Proofs.Ytelcaepenfjloaa.Print
/-! #### MaShaHex -/
/- sha.Hex: bytes in hexadecimal digits (strings.Builder). -/
namespace Go.Proofs.Ytelcaepenfjloaa.Print
open Go.RowKit Go.Proofs.YtelcaepenfjloaaW.PrintWords Go.Proofs.YtelcaepenfjloaaW.PrintLast Go.Proofs.YtelcaepenfjloaaW.PrintMore
open Go.Shelf
set_option linter.unusedVariables false
set_option linter.unusedSimpArgs false
def lays169_ren:Go.Shelf.Ren:=⟨fun|169=>90|n=>n,fun|70=>119|9=>9|0=>0|72=>121|37=>47|127=>148|3=>3|5=>5|n=>n,fun|n=>n⟩
theorem lays169:Go.Proofs.Lays.n169 Try.prog lays169_ren:={
 mixed:=by kernel_rfl
 f169:=Try.func90.trans (congrArg some (by kernel_rfl))
 t0:=Try.underlying0
 a0:=Try.isAgg0
 z0:=Try.sizeOf0
 v0:=Try.zeroValue0
 t3:=Try.underlying3
 a3:=Try.isAgg3
 z3:=Try.sizeOf3
 v3:=Try.zeroValue3
 t9:=Try.underlying9
 a9:=Try.isAgg9
 z9:=Try.sizeOf9
 v9:=Try.zeroValue9
 t37:=Try.underlying47
 a37:=Try.isAgg47
 z37:=Try.sizeOf47
 v37:=Try.zeroValue47
 t70:=Try.underlying119
 a70:=Try.isAgg119
 z70:=Try.sizeOf119
 v70:=Try.zeroValue119
 t72:=Try.underlying121
 a72:=Try.isAgg121
 z72:=Try.sizeOf121
 v72:=Try.zeroValue121
 t127:=Try.underlying148
 a127:=Try.isAgg148
 z127:=Try.sizeOf148
 v127:=Try.zeroValue148 }
theorem Builder_Extra_169:Go.Proofs.Builder.Extra Try.prog lays169_ren:={
 sizeBuilder:=by kernel_rfl
 liesBuilder:=by kernel_rfl
 t5:=Try.underlying5
 a5:=Try.isAgg5
 z5:=Try.sizeOf5
 v5:=Try.zeroValue5
 infoByte:=by kernel_rfl
 cellsByte:=by kernel_rfl
 sizeByte:=by kernel_rfl
 neB5:=by decide }
/-- What a builder that the call has made holds, handed back as a text. -/
theorem builderString_calls (B b:Nat) (l:List UInt8) (w:World) (h:Lib.IsBuilder 121 5 B b (Lib.byteCells l) w) (hBw:B≤w.heap.size) :
  Calls Try.prog 90 #[.pointer (some ⟨b,0,none⟩)] w fun e w'=>e=.returned (.string ⟨l.toArray⟩)∧Below B w w':=Go.Proofs.Any.Builder_String_any lays169 Builder_Extra_169 B b l w h hBw
theorem infoByte_:(Try.prog.info? 5).map (fun i=>(i.zero,i.size,i.bytes))=some (some (.int .u8 0),1,1):=by kernel_rfl
set_option maxHeartbeats 1000000 in
set_option maxRecDepth 100000 in
theorem copyCheck_used (b:Nat) (w:World) (h0:w.cell? ⟨b,0,none⟩=some (.pointer (some ⟨b,0,none⟩))) :
  Calls Try.prog 116 #[.pointer (some ⟨b,0,none⟩)] w fun e w'=>e=.returned (.tuple #[])∧w'=w:=by
 obtain ⟨j,hj,_⟩:=Option.map_eq_some_iff.1 Builder_Extra_169.sizeBuilder
 go_enter Try.func116,Try.ntmps116
 go_wp2
 rw [Lib.run_neq_ptr_same w _ Try.underlying119 hj]
 go_wp2
 go_end0
 exact ⟨rfl,rfl⟩
set_option maxHeartbeats 1000000 in
set_option maxRecDepth 100000 in
theorem copyCheck_fresh (b:Nat) (w:World) (h0:w.cell? ⟨b,0,none⟩=some (.pointer none)) (hsh:w.shape? b=some (121,2)) (hfz:w.frozen? ⟨b,0,none⟩=false) :
  Calls Try.prog 116 #[.pointer (some ⟨b,0,none⟩)] w fun e w'=>e=.returned (.tuple #[])∧w'=w.setCell ⟨b,0,none⟩ (.pointer (some ⟨b,0,none⟩)):=by
 obtain ⟨j,hj,hjs⟩:=Option.map_eq_some_iff.1 Builder_Extra_169.sizeBuilder
 go_enter Try.func116,Try.ntmps116
 go_wp2
 rw [Lib.run_to_unsafe w ⟨b,0,none⟩ Try.underlying119 Try.underlying152 hj (by rw [hjs];decide) hsh (Nat.zero_lt_succ 1)]
 simp only [Result.andThen]
 rw [Oper.upon_value]
 go_wp2
 rw [run_callFunc_extern Try.func125 (by kernel_rfl) (by kernel_rfl) (by kernel_rfl) (e:=Extern.AbiNoEscape.same) (by kernel_rfl)]
 rw [Lib.run_noEscape]
 simp only [Result.andThen]
 rw [Oper.upon_value]
 go_wp2
 rw [Lib.run_from_unsafe w ⟨b,0,none⟩ Try.underlying152 Try.underlying119 hj hsh Builder_Extra_169.liesBuilder]
 simp only [Result.andThen]
 rw [Oper.upon_value]
 go_wp2
 go_end0
 exact ⟨rfl,rfl⟩
theorem copyCheck_calls (B b:Nat) (bs:List Value) (w:World) (h:Lib.IsBuilder 121 5 B b bs w) :
  Calls Try.prog 116 #[.pointer (some ⟨b,0,none⟩)] w fun e w'=>e=.returned (.tuple #[])∧(Lib.BuilderAt 121 5 B b (.pointer (some ⟨b,0,none⟩)) bs w'∧Below B w w'):=by
 rcases h with h|h
 ·
  refine (copyCheck_fresh b w h.cell0 h.shape h.frozen0).mono ?_
  rintro e w' ⟨rfl,rfl⟩
  exact ⟨rfl,h.used _,(Below.refl B w).setCell (p:=⟨b,0,none⟩) h.1 _⟩
 ·
  refine (copyCheck_used b w h.cell0).mono ?_
  rintro e w' ⟨rfl,rfl⟩
  exact ⟨rfl,h,Below.refl B _⟩
set_option maxHeartbeats 2000000 in
set_option maxRecDepth 100000 in
theorem writeByte_calls (B b:Nat) (bs:List Value) (c:Int) (w:World) (h:Lib.IsBuilder 121 5 B b bs w) (hlen:bs.length+1≤140737488355328) (hBw:B≤w.heap.size) :
  Calls Try.prog 89 #[.pointer (some ⟨b,0,none⟩),.int .u8 c] w fun e w'=>e=.returned .nilIface∧(Lib.BuilderAt 121 5 B b (.pointer (some ⟨b,0,none⟩)) (bs ++ [.int .u8 c]) w'∧Below B w w'):=by
 obtain ⟨i0,hi,hz0,hz1,hz2⟩:=info_parts infoByte_
 go_enter Try.func89,Try.ntmps89
 go_wp2_with (go_at_call 116;refine (copyCheck_calls B b bs _ h).mono ?_)
 rintro e w1 ⟨rfl,h1,hb1⟩
 obtain ⟨hB,v,hbk,hown,hne⟩:=h1
 have c0:w1.cell? ⟨b,0,none⟩=some (.pointer (some ⟨b,0,none⟩)):=by rw [Lib.cell_of_heap hbk];rfl
 have c1:w1.cell? ⟨b,1,none⟩=some v:=by rw [Lib.cell_of_heap hbk];rfl
 go_wp2_with (at_builtin;refine wpList_append_own _ rfl _ _ 47 rfl B 5 i0 (.int .u8 0) 1 1 Try.underlying47 hi hz0 hz1 hz2 rfl (by decide) _ _ _ rfl (hown.alloc _) ⟨w1.heap.size,0,none⟩ 1 1 [.int .u8 c] rfl rfl ?c1 ?c2 ?c3 ?c4 ?c5 ?_)
 case c1 =>
  intro j u hj
  match j,hj with
  | 0,hj=>simp at hj;subst hj;simp [Addr.add]
 case c2=>intro u hu;simp at hu;subst hu;rfl
 case c3=>unfold maxLen;omega
 case c4=>omega
 case c5=>have:=hb1.size;simp;omega
 intro v' w2 hown' hgrow _
 have hlt:b < w1.heap.size:=by
  rcases Nat.lt_or_ge b w1.heap.size with h'|h'
  ·
   exact h'
  ·
   simp [Array.getElem?_eq_none h'] at hbk
 have hb2:w2.heap[b]?=some (.cells #[.pointer (some ⟨b,0,none⟩),v] 121 (0,0)):=by
  rw [hgrow.block b (by simp;omega) (fun e=>hne e.symm),Lib.alloc_old w1 _ b hlt]
  exact hbk
 have d0:w2.cell? ⟨b,0,none⟩=some (.pointer (some ⟨b,0,none⟩)):=by rw [Lib.cell_of_heap hb2];rfl
 have d1:w2.cell? ⟨b,1,none⟩=some v:=by rw [Lib.cell_of_heap hb2];rfl
 have f1:w2.frozen? ⟨b,1,none⟩=false:=Lib.frozen_of_heap hb2 1
 obtain ⟨g,cap,rfl⟩:∃ g cap,v'=.slice (some ⟨g,0,none⟩) (bs.length+1) cap:=by
  rcases hown'.2 with ⟨_,h0⟩|⟨g,cap,cur,hv,_⟩
  ·
   omega
  ·
   exact ⟨g,cap,hv⟩
 go_wp2
 go_ret
 refine ⟨rfl,?_,?_⟩
 ·
  exact Lib.BuilderAt.put (T:=121) (e:=5) hB hb2 (bs':=bs ++ [.int .u8 c]) (by simpa using hown') (by decide)
 ·
  exact ((hb1.alloc (by have:=hb1.size;omega) _).grown hgrow (by have:=hb1.size;simp;omega) (fun k hk=>(hown.lt k hk).1)).setCell (p:=⟨b,1,none⟩) hB _
def hexDigits:ByteArray:=⟨#[48,49,50,51,52,53,54,55,56,57,97,98,99,100,101,102]⟩
def hexTwo (c:Int):List Int:=[bt hexDigits (c / 16),bt hexDigits (c % 16)]
def hexL (l:List Int):List Int:=l.flatMap hexTwo
def sha_Hex.f (a0:ByteArray):Option ByteArray:=if a0.size≤70368744177664 then some (strOfNums (hexL (bytesOf a0))) else none
theorem hexL_step (l:List Int) (i:Nat) (h:i < l.length):hexL (l.take (i+1))=hexL (l.take i) ++ hexTwo (l.getD i 0):=by
 unfold hexL
 rw [List.take_succ_eq_append_getElem h,List.flatMap_append,List.getD_eq_getElem?_getD,List.getElem?_eq_getElem h]
 simp
theorem hexL_length (l:List Int):(hexL l).length=2 * l.length:=by
 induction l with
 | nil=>rfl
 | cons a l ih=>rw [hexL,List.flatMap_cons,List.length_append,← hexL,ih];simp [hexTwo];omega
theorem nums_bytes (xs:List Int) (h:∀ x∈xs,0≤x∧x≤255):nums .u8 xs=Lib.byteCells (xs.map fun n=>UInt8.ofNat n.toNat):=by
 unfold nums Lib.byteCells
 rw [List.map_map]
 refine List.map_congr_left fun x hx=>?_
 have:=h x hx
 have e:(UInt8.ofNat x.toNat).toNat=x.toNat:=UInt8.toNat_ofNat_of_lt' (by show x.toNat < 256;omega)
 simp only [Function.comp,e]
 congr 1
 omega
theorem hexL_range (l:List Int):∀ x∈hexL l,0≤x∧x≤255:=by
 intro x hx
 obtain ⟨c,_,hc⟩:=List.mem_flatMap.1 hx
 simp only [hexTwo,List.mem_cons,List.not_mem_nil,or_false] at hc
 rcases hc with rfl|rfl
 ·
  exact bt_range _ _
 ·
  exact bt_range _ _
set_option maxHeartbeats 800000 in
set_option maxRecDepth 100000 in
theorem sha_Hex.calls (a0:ByteArray) (r:ByteArray) (w:World) (h:sha_Hex.f a0=some r) :
  Calls Try.prog 42 #[.string a0] w fun e w'=>e=.returned (.string r)∧Below w.heap.size w w':=by
 unfold sha_Hex.f at h
 by_cases hs:a0.size≤70368744177664
 ·
  rw [if_pos hs] at h
  have hr:=(Option.some.inj h).symm
  clear h
  have HR:=Aside0.mk hr
  clear hr
  go_enter Try.func42,Try.ntmps42
  go_wp2
  go_loopg [4,7] (a0.size+1) (fun gg _ v7 wr=>∃ i:Nat,i+gg=a0.size+1∧v7=.int .i64 (i:Int)∧Aside0 (Lib.IsBuilder 121 5 w.heap.size w.heap.size (nums .u8 (hexL ((bytesOf a0).take i))) wr)∧Aside0 (Below w.heap.size w wr))
  case atStart=>exact ⟨0,by omega,rfl,⟨.inl ⟨Nat.le_refl _,_,heap_alloc_new _ _,World.ownsRow_nil ..,by simp [Value.ownBlock]⟩⟩,⟨below_alloc (Below.refl _ _) _⟩⟩
  case round =>
   obtain ⟨i,hi,rfl,HO,HB⟩:=hrel
   by_cases hlt:i < a0.size
   ·
    obtain ⟨gg,rfl⟩:∃ m,gk=m+1:=⟨gk - 1,by omega⟩
    have hltz:(i:Int) < (a0.size:Int):=by omega
    have p0:0≤(i:Int):=by omega
    have hx:((a0[i]'hlt).toNat:Int)=bt a0 (i:Int):=bt_at a0 (i:Int) hlt
    have hst:=hexL_step (bytesOf a0) i (by rw [bytesOf_length];exact hlt)
    rw [show (bytesOf a0).getD i 0=bt a0 (i:Int) by rw [← rd_bytesOf];simp [rd]] at hst
    have hlen:(nums .u8 (hexL ((bytesOf a0).take i))).length+2≤140737488355328:=by
     rw [nums_length,hexL_length,List.length_take]
     omega
    have hrg:=bt_range a0 (i:Int)
    generalize bt a0 (i:Int)=c at hx hst hrg
    generalize hbs:hexL ((bytesOf a0).take i)=bs at HO hst hlen
    have HST:=Aside0.mk hst
    have HLEN:=Aside0.mk hlen
    clear hst hlen hbs
    obtain ⟨j1,hj1⟩:∃ j:Int,c / 16=j:=⟨_,rfl⟩
    obtain ⟨j2,hj2⟩:∃ j:Int,Go.bits .and .u8 c 15=j:=⟨_,rfl⟩
    have e2:c % 16=j2:=by rw [← hj2,u8_and15 c hrg.1 (by omega)]
    have p1:0≤j1:=by omega
    have q1:j1 < 16:=by omega
    have p2:0≤j2:=by omega
    have q2:j2 < 16:=by omega
    have hx1:=bt_at (⟨#[48,49,50,51,52,53,54,55,56,57,97,98,99,100,101,102]⟩:ByteArray) j1
    have hx2:=bt_at (⟨#[48,49,50,51,52,53,54,55,56,57,97,98,99,100,101,102]⟩:ByteArray) j2
    have E1:=Aside0.mk hj1
    have E2:=Aside0.mk e2
    clear e2
    obtain ⟨d1,hd1⟩:∃ j:Int,bt (⟨#[48,49,50,51,52,53,54,55,56,57,97,98,99,100,101,102]⟩:ByteArray) j1=j:=⟨_,rfl⟩
    obtain ⟨d2,hd2⟩:∃ j:Int,bt (⟨#[48,49,50,51,52,53,54,55,56,57,97,98,99,100,101,102]⟩:ByteArray) j2=j:=⟨_,rfl⟩
    rw [hd1] at hx1
    rw [hd2] at hx2
    have D1:=Aside0.mk hd1
    have D2:=Aside0.mk hd2
    clear hd1 hd2 hrg
    go_wp2_with (first
     | (go_at_call 89;(with_reducible refine (writeByte_calls w.heap.size w.heap.size (nums .u8 bs) d1 _ HO.out (by have:=HLEN.out;omega) HB.out.size).mono ?_);rintro e w1 ⟨rfl,hb1,hl1⟩;have HO1:=Aside0.mk (show Lib.IsBuilder 121 5 w.heap.size w.heap.size _ _ from .inr hb1);have HB1:=Aside0.mk (HB.out.trans (hl1.mono (Nat.le_refl _)));clear HO HB hb1 hl1)
     | (go_at_call 89;(with_reducible refine (writeByte_calls w.heap.size w.heap.size (nums .u8 bs ++ [.int .u8 d1]) d2 _ HO1.out (by have:=HLEN.out;simp only [List.length_append,List.length_cons,List.length_nil];omega) HB1.out.size).mono ?_);rintro e w2 ⟨rfl,hb2,hl2⟩;have HO2:=Aside0.mk hb2;have HB2:=Aside0.mk (HB1.out.trans (hl2.mono (Nat.le_refl _)));clear HO1 HB1 hb2 hl2))
    go_roundg gg
    case measure=>omega
    case rel=>exact ⟨i+1,by omega,by go_num,⟨.inr (by
     rw [HST.out,nums_append]
     have e:nums .u8 (hexTwo c)=[.int .u8 d1,.int .u8 d2]:=by
      unfold hexTwo hexDigits
      rw [E1.out,E2.out,D1.out,D2.out]
      rfl
     rw [e]
     have:=HO2.out
     rw [List.append_assoc] at this
     exact this)⟩,HB2⟩
   ·
    have hltz:¬ (i:Int) < (a0.size:Int):=by omega
    have hall:(bytesOf a0).take i=bytesOf a0:=List.take_of_length_le (by rw [bytesOf_length];omega)
    rw [hall,nums_bytes _ (hexL_range _)] at HO
    clear hall
    go_wp2_with (go_at_call 90;refine (builderString_calls w.heap.size w.heap.size _ _ HO.out HB.out.size).mono ?_;rintro e w1 ⟨rfl,hb1⟩)
    go_ret
    exact ⟨by rw [HR.out];rfl,HB.out.trans (hb1.mono (Nat.le_refl _))⟩
 ·
  rw [if_neg hs] at h
  exact absurd h (by simp)
end Go.Proofs.Ytelcaepenfjloaa.Print
/-! #### Pr25 -/
namespace Go.Proofs.Ytelcaepenfjloaa.Print
open Go.RowKit Go.Proofs.YtelcaepenfjloaaW.PrintWords Go.Proofs.YtelcaepenfjloaaW.PrintLast Go.Proofs.YtelcaepenfjloaaW.PrintMore
attribute [local go_sem] max2_int min2_int max_two min_two max_three min_three max_four min_four
set_option linter.unusedVariables false
set_option linter.unusedSimpArgs false
/-! ### mosaiclaw01_awake: function 25 -/
def mosaiclaw01_awake.f  : Option (Bool):=(sha_Sum.f (⟨#[97,98,99]⟩:ByteArray)).bind fun t115=>((sha_Hex.f t115).bind fun t116=>(if t116.toList=([98,97,55,56,49,54,98,102,56,102,48,49,99,102,101,97,52,49,52,49,52,48,100,101,53,100,97,101,50,50,50,51,98,48,48,51,54,49,97,51,57,54,49,55,55,97,57,99,98,52,49,48,102,102,54,49,102,50,48,48,49,53,97,100]:List UInt8) then ((sha_Sum.f (⟨#[]⟩:ByteArray)).bind fun t117=>((sha_Hex.f t117).bind fun t118=>(some (t118.toList == ([101,51,98,48,99,52,52,50,57,56,102,99,49,99,49,52,57,97,102,98,102,52,99,56,57,57,54,102,98,57,50,52,50,55,97,101,52,49,101,52,54,52,57,98,57,51,52,99,97,52,57,53,57,57,49,98,55,56,53,50,98,56,53,53]:List UInt8))))) else (some false)))
set_option maxHeartbeats 8000000 in
set_option maxRecDepth 100000 in
theorem mosaiclaw01_awake.calls  (r:Bool) (w:World) (h:mosaiclaw01_awake.f  = some r) :
  Calls Try.prog 25 #[] w fun e w'=>e=.returned (.bool r)∧Below w.heap.size w w':=by
 have HB:=Aside0.mk (Below.refl w.heap.size w)
 have H:((sha_Sum.f (⟨#[97,98,99]⟩:ByteArray)).bind fun t115=>((sha_Hex.f t115).bind fun t116=>(if t116.toList=([98,97,55,56,49,54,98,102,56,102,48,49,99,102,101,97,52,49,52,49,52,48,100,101,53,100,97,101,50,50,50,51,98,48,48,51,54,49,97,51,57,54,49,55,55,97,57,99,98,52,49,48,102,102,54,49,102,50,48,48,49,53,97,100]:List UInt8) then ((sha_Sum.f (⟨#[]⟩:ByteArray)).bind fun t117=>((sha_Hex.f t117).bind fun t118=>(some (t118.toList == ([101,51,98,48,99,52,52,50,57,56,102,99,49,99,49,52,57,97,102,98,102,52,99,56,57,57,54,102,98,57,50,52,50,55,97,101,52,49,101,52,54,52,57,98,57,51,52,99,97,52,57,53,57,57,49,98,55,56,53,50,98,56,53,53]:List UInt8))))) else (some false))))=some r:=h
 clear h
 replace H:=Option.bind_eq_some_iff.mp H
 obtain ⟨t115,A10,H⟩:=H
 replace H:((sha_Hex.f t115).bind fun t116=>(if t116.toList=([98,97,55,56,49,54,98,102,56,102,48,49,99,102,101,97,52,49,52,49,52,48,100,101,53,100,97,101,50,50,50,51,98,48,48,51,54,49,97,51,57,54,49,55,55,97,57,99,98,52,49,48,102,102,54,49,102,50,48,48,49,53,97,100]:List UInt8) then ((sha_Sum.f (⟨#[]⟩:ByteArray)).bind fun t117=>((sha_Hex.f t117).bind fun t118=>(some (t118.toList == ([101,51,98,48,99,52,52,50,57,56,102,99,49,99,49,52,57,97,102,98,102,52,99,56,57,57,54,102,98,57,50,52,50,55,97,101,52,49,101,52,54,52,57,98,57,51,52,99,97,52,57,53,57,57,49,98,55,56,53,50,98,56,53,53]:List UInt8))))) else (some false)))=some r:=H
 have A1:=Aside0.mk A10
 clear A10
 replace H:=Option.bind_eq_some_iff.mp H
 obtain ⟨t116,A20,H⟩:=H
 replace H:(if t116.toList=([98,97,55,56,49,54,98,102,56,102,48,49,99,102,101,97,52,49,52,49,52,48,100,101,53,100,97,101,50,50,50,51,98,48,48,51,54,49,97,51,57,54,49,55,55,97,57,99,98,52,49,48,102,102,54,49,102,50,48,48,49,53,97,100]:List UInt8) then ((sha_Sum.f (⟨#[]⟩:ByteArray)).bind fun t117=>((sha_Hex.f t117).bind fun t118=>(some (t118.toList == ([101,51,98,48,99,52,52,50,57,56,102,99,49,99,49,52,57,97,102,98,102,52,99,56,57,57,54,102,98,57,50,52,50,55,97,101,52,49,101,52,54,52,57,98,57,51,52,99,97,52,57,53,57,57,49,98,55,56,53,50,98,56,53,53]:List UInt8))))) else (some false))=some r:=H
 have A2:=Aside0.mk A20
 clear A20
 by_cases c3:t116.toList=([98,97,55,56,49,54,98,102,56,102,48,49,99,102,101,97,52,49,52,49,52,48,100,101,53,100,97,101,50,50,50,51,98,48,48,51,54,49,97,51,57,54,49,55,55,97,57,99,98,52,49,48,102,102,54,49,102,50,48,48,49,53,97,100]:List UInt8)
 ·
  rw [if_pos c3] at H
  have c3b0:(t116.toList == ([98,97,55,56,49,54,98,102,56,102,48,49,99,102,101,97,52,49,52,49,52,48,100,101,53,100,97,101,50,50,50,51,98,48,48,51,54,49,97,51,57,54,49,55,55,97,57,99,98,52,49,48,102,102,54,49,102,50,48,48,49,53,97,100]:List UInt8))=true:=beq_iff_eq.mpr c3
  have c3b1:(t116.toList != ([98,97,55,56,49,54,98,102,56,102,48,49,99,102,101,97,52,49,52,49,52,48,100,101,53,100,97,101,50,50,50,51,98,48,48,51,54,49,97,51,57,54,49,55,55,97,57,99,98,52,49,48,102,102,54,49,102,50,48,48,49,53,97,100]:List UInt8))=false:=bne_eq_false_iff_eq.mpr c3
  clear c3
  replace H:=Option.bind_eq_some_iff.mp H
  obtain ⟨t117,A40,H⟩:=H
  replace H:((sha_Hex.f t117).bind fun t118=>(some (t118.toList == ([101,51,98,48,99,52,52,50,57,56,102,99,49,99,49,52,57,97,102,98,102,52,99,56,57,57,54,102,98,57,50,52,50,55,97,101,52,49,101,52,54,52,57,98,57,51,52,99,97,52,57,53,57,57,49,98,55,56,53,50,98,56,53,53]:List UInt8))))=some r:=H
  have A4:=Aside0.mk A40
  clear A40
  replace H:=Option.bind_eq_some_iff.mp H
  obtain ⟨t118,A50,H⟩:=H
  replace H:(some (t118.toList == ([101,51,98,48,99,52,52,50,57,56,102,99,49,99,49,52,57,97,102,98,102,52,99,56,57,57,54,102,98,57,50,52,50,55,97,101,52,49,101,52,54,52,57,98,57,51,52,99,97,52,57,53,57,57,49,98,55,56,53,50,98,56,53,53]:List UInt8)))=some r:=H
  have A5:=Aside0.mk A50
  clear A50
  obtain rfl:=Option.some.inj H
  go_enter Try.func25,Try.ntmps25
  go_wp2_with (first|((with_reducible refine gate_callee (f:=26) rfl ?_);refine goesL_ (some 1) rfl rfl Try.func26 (by kernel_rfl) rfl #[.string (⟨#[97,98,99]⟩:ByteArray)] rfl (by (try simp only [List.map_toArray,List.map_cons,List.map_nil]);first|done|rfl|(simp only [List.length_drop,List.length_take];rfl)) ?_;(with_reducible refine (sha_Sum.calls (⟨#[97,98,99]⟩:ByteArray) t115 _ A1.out).mono ?_);rintro e w6 ⟨rfl,hb⟩;refine ⟨_,rfl,?_⟩;have n0_:=Aside0.mk (below_step (by repeat (first|(with_reducible first|exact HB.out|apply below_alloc|apply pw_below_drewN|apply below_drew1)|exact HB.out)) hb);clear HB;have HB:=n0_;clear n0_;(try clear hb);(try clear hb2);(try clear hk);(try clear hi))|((with_reducible refine gate_callee (f:=42) rfl ?_);refine goesL_ (some 2) rfl rfl Try.func42 (by kernel_rfl) rfl #[.string t115] rfl (by (try simp only [List.map_toArray,List.map_cons,List.map_nil]);first|done|rfl|(simp only [List.length_drop,List.length_take];rfl)) ?_;(with_reducible refine (sha_Hex.calls t115 t116 _ A2.out).mono ?_);rintro e w7 ⟨rfl,hb⟩;refine ⟨_,rfl,?_⟩;have n0_:=Aside0.mk (below_step (by repeat (first|(with_reducible first|exact HB.out|apply below_alloc|apply pw_below_drewN|apply below_drew1)|exact HB.out)) hb);clear HB;have HB:=n0_;clear n0_;(try clear hb);(try clear hb2);(try clear hk);(try clear hi))|(go_at_call 26;(with_reducible refine (sha_Sum.calls (⟨#[]⟩:ByteArray) t117 _ A4.out).mono ?_);rintro e w8 ⟨rfl,hb⟩;have n0_:=Aside0.mk (below_step (by repeat (first|(with_reducible first|exact HB.out|apply below_alloc|apply pw_below_drewN|apply below_drew1)|exact HB.out)) hb);clear HB;have HB:=n0_;clear n0_;(try clear hb);(try clear hb2);(try clear hk);(try clear hi))|(go_at_call 42;(with_reducible refine (sha_Hex.calls t117 t118 _ A5.out).mono ?_);rintro e w9 ⟨rfl,hb⟩;have n0_:=Aside0.mk (below_step (by repeat (first|(with_reducible first|exact HB.out|apply below_alloc|apply pw_below_drewN|apply below_drew1)|exact HB.out)) hb);clear HB;have HB:=n0_;clear n0_;(try clear hb);(try clear hb2);(try clear hk);(try clear hi)))
  go_ret
  exact ⟨by first|rfl|(simp [errW_none,errW_some] <;> rfl)|(simp [*,errW_none,errW_some] <;> rfl),by repeat (first|(with_reducible first|exact HB.out|apply below_alloc|apply pw_below_drewN|apply below_drew1)|exact HB.out)⟩
 ·
  rw [if_neg c3] at H
  have c3b0:(t116.toList == ([98,97,55,56,49,54,98,102,56,102,48,49,99,102,101,97,52,49,52,49,52,48,100,101,53,100,97,101,50,50,50,51,98,48,48,51,54,49,97,51,57,54,49,55,55,97,57,99,98,52,49,48,102,102,54,49,102,50,48,48,49,53,97,100]:List UInt8))=false:=beq_eq_false_iff_ne.mpr c3
  have c3b1:(t116.toList != ([98,97,55,56,49,54,98,102,56,102,48,49,99,102,101,97,52,49,52,49,52,48,100,101,53,100,97,101,50,50,50,51,98,48,48,51,54,49,97,51,57,54,49,55,55,97,57,99,98,52,49,48,102,102,54,49,102,50,48,48,49,53,97,100]:List UInt8))=true:=bne_iff_ne.mpr c3
  obtain rfl:=Option.some.inj H
  go_enter Try.func25,Try.ntmps25
  go_wp2_with (first|((with_reducible refine gate_callee (f:=26) rfl ?_);refine goesL_ (some 1) rfl rfl Try.func26 (by kernel_rfl) rfl #[.string (⟨#[97,98,99]⟩:ByteArray)] rfl (by (try simp only [List.map_toArray,List.map_cons,List.map_nil]);first|done|rfl|(simp only [List.length_drop,List.length_take];rfl)) ?_;(with_reducible refine (sha_Sum.calls (⟨#[97,98,99]⟩:ByteArray) t115 _ A1.out).mono ?_);rintro e w10 ⟨rfl,hb⟩;refine ⟨_,rfl,?_⟩;have n0_:=Aside0.mk (below_step (by repeat (first|(with_reducible first|exact HB.out|apply below_alloc|apply pw_below_drewN|apply below_drew1)|exact HB.out)) hb);clear HB;have HB:=n0_;clear n0_;(try clear hb);(try clear hb2);(try clear hk);(try clear hi))|((with_reducible refine gate_callee (f:=42) rfl ?_);refine goesL_ (some 2) rfl rfl Try.func42 (by kernel_rfl) rfl #[.string t115] rfl (by (try simp only [List.map_toArray,List.map_cons,List.map_nil]);first|done|rfl|(simp only [List.length_drop,List.length_take];rfl)) ?_;(with_reducible refine (sha_Hex.calls t115 t116 _ A2.out).mono ?_);rintro e w11 ⟨rfl,hb⟩;refine ⟨_,rfl,?_⟩;have n0_:=Aside0.mk (below_step (by repeat (first|(with_reducible first|exact HB.out|apply below_alloc|apply pw_below_drewN|apply below_drew1)|exact HB.out)) hb);clear HB;have HB:=n0_;clear n0_;(try clear hb);(try clear hb2);(try clear hk);(try clear hi)))
  go_ret
  exact ⟨by first|rfl|(simp [errW_none,errW_some] <;> rfl)|(simp [*,errW_none,errW_some] <;> rfl),by repeat (first|(with_reducible first|exact HB.out|apply below_alloc|apply pw_below_drewN|apply below_drew1)|exact HB.out)⟩
end Go.Proofs.Ytelcaepenfjloaa.Print
/-! #### PureW -/
/- Words for pure statements: rounds that suffice (Ev), tests, numbers, lists. -/
namespace Go.Proofs.YtelcaepenfjloaaW.PrintWords
theorem Ev.pos {α:Type} {c:Prop} [Decidable c] {f g:Nat→Option α} {r:α} (h:c) (k:Ev f r):Ev (fun n=>if c then f n else g n) r:=by
 simpa only [if_pos h] using k
theorem Ev.neg {α:Type} {c:Prop} [Decidable c] {f g:Nat→Option α} {r:α} (h:¬ c) (k:Ev g r):Ev (fun n=>if c then f n else g n) r:=by
 simpa only [if_neg h] using k
theorem Ev.some_ {α:Type} {a r:α} (h:a=r):Ev (fun _=>some a) r:=h ▸ Ev.now a
theorem Ev.some_bind {α β:Type} {a:α} {f:Nat→α→Option β} {r:β} (k:Ev (fun n=>f n a) r):Ev (fun n=>(some a).bind (f n)) r:=k
theorem Ev.to {α:Type} {g:Nat→Option α} {r r':α} (h:Ev g r) (e:r=r'):Ev g r':=e ▸ h
/-- A call that has no rounds. -/
theorem Ev.call {α β:Type} {o:Option α} {a:α} {f:Nat→α→Option β} {r:β} (h:o=some a) (k:Ev (fun n=>f n a) r):Ev (fun n=>o.bind (f n)) r:=by
 subst h
 exact k
theorem Ev.succ {α:Type} {g:Nat→Option α} {r:α} (k:Ev (fun n=>g (n+1)) r):Ev g r:=Ev.step (fun _=>rfl) k
end Go.Proofs.YtelcaepenfjloaaW.PrintWords
namespace Go.Proofs.Ytelcaepenfjloaa.Pure
open Go.RowKit Go.Proofs.YtelcaepenfjloaaW.PrintWords
set_option linter.unusedVariables false
theorem wrap_succ (i:Nat) (h:i < 9223372036854775807):wrap64 ((i:Int)+1)=((i+1:Nat):Int):=by unfold wrap64;omega
theorem rd_nat (l:List Int) (i:Nat):rd l (i:Int)=l.getD i 0:=by simp [rd]
end Go.Proofs.Ytelcaepenfjloaa.Pure
/-! #### PureSha -/
/- SHA-256 in plain words: the reference's sum is the program's. -/
namespace Go.Proofs.Ytelcaepenfjloaa.Pure
open Go.RowKit Go.Proofs.Ytelcaepenfjloaa.Print Go.Proofs.YtelcaepenfjloaaW.PrintWords Go.Proofs.YtelcaepenfjloaaW.PrintLast Go.Proofs.YtelcaepenfjloaaW.PrintMore
set_option linter.unusedVariables false
set_option linter.unusedSimpArgs false
theorem bits_or_comm (k:IntKind) (x y:Int):Go.bits .or k x y=Go.bits .or k y x:=by
 simp only [Go.bits,BitVec.or_comm]
theorem ref_rotr_7 (x:Int):mosaicref01_rotr.f x 7=some (rotrN x 7):=by
 have h:=rotr_7 x
 unfold sha_rotr.f bits_RotateLeft32.f at h
 have e1:Go.bits .and .u64 (IntKind.u64.wrap (wrap64 (-7))) 31=25:=by decide +kernel
 have e2:IntKind.u64.wrap (32 - 25)=7:=by decide +kernel
 have e3:IntKind.u64.wrap (32 - 7)=25:=by decide +kernel
 rw [e1,if_pos (by omega),e2,if_pos (by omega)] at h
 unfold mosaicref01_rotr.f
 rw [if_pos (by omega),e3,if_pos (by omega),bits_or_comm]
 exact h
theorem ref_rotr_18 (x:Int):mosaicref01_rotr.f x 18=some (rotrN x 18):=by
 have h:=rotr_18 x
 unfold sha_rotr.f bits_RotateLeft32.f at h
 have e1:Go.bits .and .u64 (IntKind.u64.wrap (wrap64 (-18))) 31=14:=by decide +kernel
 have e2:IntKind.u64.wrap (32 - 14)=18:=by decide +kernel
 have e3:IntKind.u64.wrap (32 - 18)=14:=by decide +kernel
 rw [e1,if_pos (by omega),e2,if_pos (by omega)] at h
 unfold mosaicref01_rotr.f
 rw [if_pos (by omega),e3,if_pos (by omega),bits_or_comm]
 exact h
theorem ref_rotr_17 (x:Int):mosaicref01_rotr.f x 17=some (rotrN x 17):=by
 have h:=rotr_17 x
 unfold sha_rotr.f bits_RotateLeft32.f at h
 have e1:Go.bits .and .u64 (IntKind.u64.wrap (wrap64 (-17))) 31=15:=by decide +kernel
 have e2:IntKind.u64.wrap (32 - 15)=17:=by decide +kernel
 have e3:IntKind.u64.wrap (32 - 17)=15:=by decide +kernel
 rw [e1,if_pos (by omega),e2,if_pos (by omega)] at h
 unfold mosaicref01_rotr.f
 rw [if_pos (by omega),e3,if_pos (by omega),bits_or_comm]
 exact h
theorem ref_rotr_19 (x:Int):mosaicref01_rotr.f x 19=some (rotrN x 19):=by
 have h:=rotr_19 x
 unfold sha_rotr.f bits_RotateLeft32.f at h
 have e1:Go.bits .and .u64 (IntKind.u64.wrap (wrap64 (-19))) 31=13:=by decide +kernel
 have e2:IntKind.u64.wrap (32 - 13)=19:=by decide +kernel
 have e3:IntKind.u64.wrap (32 - 19)=13:=by decide +kernel
 rw [e1,if_pos (by omega),e2,if_pos (by omega)] at h
 unfold mosaicref01_rotr.f
 rw [if_pos (by omega),e3,if_pos (by omega),bits_or_comm]
 exact h
theorem ref_rotr_6 (x:Int):mosaicref01_rotr.f x 6=some (rotrN x 6):=by
 have h:=rotr_6 x
 unfold sha_rotr.f bits_RotateLeft32.f at h
 have e1:Go.bits .and .u64 (IntKind.u64.wrap (wrap64 (-6))) 31=26:=by decide +kernel
 have e2:IntKind.u64.wrap (32 - 26)=6:=by decide +kernel
 have e3:IntKind.u64.wrap (32 - 6)=26:=by decide +kernel
 rw [e1,if_pos (by omega),e2,if_pos (by omega)] at h
 unfold mosaicref01_rotr.f
 rw [if_pos (by omega),e3,if_pos (by omega),bits_or_comm]
 exact h
theorem ref_rotr_11 (x:Int):mosaicref01_rotr.f x 11=some (rotrN x 11):=by
 have h:=rotr_11 x
 unfold sha_rotr.f bits_RotateLeft32.f at h
 have e1:Go.bits .and .u64 (IntKind.u64.wrap (wrap64 (-11))) 31=21:=by decide +kernel
 have e2:IntKind.u64.wrap (32 - 21)=11:=by decide +kernel
 have e3:IntKind.u64.wrap (32 - 11)=21:=by decide +kernel
 rw [e1,if_pos (by omega),e2,if_pos (by omega)] at h
 unfold mosaicref01_rotr.f
 rw [if_pos (by omega),e3,if_pos (by omega),bits_or_comm]
 exact h
theorem ref_rotr_25 (x:Int):mosaicref01_rotr.f x 25=some (rotrN x 25):=by
 have h:=rotr_25 x
 unfold sha_rotr.f bits_RotateLeft32.f at h
 have e1:Go.bits .and .u64 (IntKind.u64.wrap (wrap64 (-25))) 31=7:=by decide +kernel
 have e2:IntKind.u64.wrap (32 - 7)=25:=by decide +kernel
 have e3:IntKind.u64.wrap (32 - 25)=7:=by decide +kernel
 rw [e1,if_pos (by omega),e2,if_pos (by omega)] at h
 unfold mosaicref01_rotr.f
 rw [if_pos (by omega),e3,if_pos (by omega),bits_or_comm]
 exact h
theorem ref_rotr_2 (x:Int):mosaicref01_rotr.f x 2=some (rotrN x 2):=by
 have h:=rotr_2 x
 unfold sha_rotr.f bits_RotateLeft32.f at h
 have e1:Go.bits .and .u64 (IntKind.u64.wrap (wrap64 (-2))) 31=30:=by decide +kernel
 have e2:IntKind.u64.wrap (32 - 30)=2:=by decide +kernel
 have e3:IntKind.u64.wrap (32 - 2)=30:=by decide +kernel
 rw [e1,if_pos (by omega),e2,if_pos (by omega)] at h
 unfold mosaicref01_rotr.f
 rw [if_pos (by omega),e3,if_pos (by omega),bits_or_comm]
 exact h
theorem ref_rotr_13 (x:Int):mosaicref01_rotr.f x 13=some (rotrN x 13):=by
 have h:=rotr_13 x
 unfold sha_rotr.f bits_RotateLeft32.f at h
 have e1:Go.bits .and .u64 (IntKind.u64.wrap (wrap64 (-13))) 31=19:=by decide +kernel
 have e2:IntKind.u64.wrap (32 - 19)=13:=by decide +kernel
 have e3:IntKind.u64.wrap (32 - 13)=19:=by decide +kernel
 rw [e1,if_pos (by omega),e2,if_pos (by omega)] at h
 unfold mosaicref01_rotr.f
 rw [if_pos (by omega),e3,if_pos (by omega),bits_or_comm]
 exact h
theorem ref_rotr_22 (x:Int):mosaicref01_rotr.f x 22=some (rotrN x 22):=by
 have h:=rotr_22 x
 unfold sha_rotr.f bits_RotateLeft32.f at h
 have e1:Go.bits .and .u64 (IntKind.u64.wrap (wrap64 (-22))) 31=10:=by decide +kernel
 have e2:IntKind.u64.wrap (32 - 10)=22:=by decide +kernel
 have e3:IntKind.u64.wrap (32 - 22)=10:=by decide +kernel
 rw [e1,if_pos (by omega),e2,if_pos (by omega)] at h
 unfold mosaicref01_rotr.f
 rw [if_pos (by omega),e3,if_pos (by omega),bits_or_comm]
 exact h
theorem wraps_u32 (n:Int) (h₀:0≤n) (h₁:n < 2 ^ 32):IntKind.u32.wrap n=n:=by rw [IntKind.wrap_u32];omega
theorem u32_or (i:Nat) (x y:Int) (hx₀:0≤x) (hx:x % 2 ^ i=0) (hx₁:x < 2 ^ 32) (hy₀:0≤y) (hy:y < 2 ^ i) (hi:y < 2 ^ 32):Go.bits .or .u32 x y=x+y :=
 bits_join .u32 32 (by decide) wraps_u32 i x y hx₀ hx hx₁ hy₀ hy hi
/-- A word of a block. -/
theorem word_eq (b:ByteArray) (i:Nat) (h:4 * i+3 < b.size) (hb:b.size≤9223372036854775807) :
  wordN (bytesOf b) (4 * (i:Int))=((((((((bt b (4 * (i:Int))) % 4294967296) * 16777216) % 4294967296)+((((bt b (4 * (i:Int)+1)) % 4294967296) * 65536) % 4294967296)) % 4294967296)+((((bt b (4 * (i:Int)+2)) % 4294967296) * 256) % 4294967296)) % 4294967296+((bt b (4 * (i:Int)+3)) % 4294967296)) % 4294967296:=by
 have hw:=word_some (bytesOf b) (4 * (i:Int)) (by omega) (by rw [bytesOf_length];omega) (by rw [bytesOf_length];exact hb)
 unfold sha_word.f at hw
 have hl:=bytesOf_length b
 have e1:wrap64 (4 * (i:Int)+1)=4 * (i:Int)+1:=by unfold wrap64;omega
 have e2:wrap64 (4 * (i:Int)+2)=4 * (i:Int)+2:=by unfold wrap64;omega
 have e3:wrap64 (4 * (i:Int)+3)=4 * (i:Int)+3:=by unfold wrap64;omega
 rw [e1,e2,e3,hl,if_pos (by omega),if_pos (by omega),if_pos (by omega),if_pos (by omega),if_pos (by omega),if_pos (by omega),if_pos (by omega),if_pos (by omega)] at hw
 have hw:=(Option.some.inj hw).symm
 rw [hw,rd_bytesOf,rd_bytesOf,rd_bytesOf,rd_bytesOf]
 have r0:=bt_range b (4 * (i:Int))
 have r1:=bt_range b (4 * (i:Int)+1)
 have r2:=bt_range b (4 * (i:Int)+2)
 have r3:=bt_range b (4 * (i:Int)+3)
 generalize bt b (4 * (i:Int))=x0 at r0 ⊢
 generalize bt b (4 * (i:Int)+1)=x1 at r1 ⊢
 generalize bt b (4 * (i:Int)+2)=x2 at r2 ⊢
 generalize bt b (4 * (i:Int)+3)=x3 at r3 ⊢
 rw [u32_or 24 (x0 % 4294967296 * 16777216 % 4294967296) (x1 % 4294967296 * 65536 % 4294967296) (by omega) (by omega) (by omega) (by omega) (by omega) (by omega),
  u32_or 16 _ (x2 % 4294967296 * 256 % 4294967296) (by omega) (by omega) (by omega) (by omega) (by omega) (by omega),
  u32_or 8 _ (x3 % 4294967296) (by omega) (by omega) (by omega) (by omega) (by omega) (by omega)]
 omega
theorem getD_pad (y:List Int) (n i:Nat) (h:i < y.length):(y ++ List.replicate n 0).getD i 0=y.getD i 0:=by
 simp [List.getD_eq_getElem?_getD,List.getElem?_append_left h]
theorem set_pad (y:List Int) (n:Nat) (v:Int):(y ++ List.replicate (n+1) 0).set y.length v=(y ++ [v]) ++ List.replicate n 0:=by
 rw [List.set_append_right _ _ (Nat.le_refl _),Nat.sub_self,List.replicate_succ,List.set_cons_zero,List.append_assoc]
 rfl
theorem words_l1 (l:List Int) (d:Nat):∀ (y:List Int),16≤y.length→y.length+d=64→Ev (fun k=>mosaicref01_Words.l1 k y (y.length:Int)) (schedL l d y.length (y ++ List.replicate d 0)):=by
 induction d with
 | zero =>
  intro y h0 h
  refine Ev.succ ?_
  simp only [mosaicref01_Words.l1,schedL]
  refine Ev.neg (by omega) (Ev.some_ (by simp))
 | succ d ih =>
  intro y h0 h
  refine Ev.succ ?_
  simp only [mosaicref01_Words.l1,schedL]
  have w15:wrap64 ((y.length:Int) - 15)=((y.length - 15:Nat):Int):=by unfold wrap64;omega
  have w2:wrap64 ((y.length:Int) - 2)=((y.length - 2:Nat):Int):=by unfold wrap64;omega
  have w7:wrap64 ((y.length:Int) - 7)=((y.length - 7:Nat):Int):=by unfold wrap64;omega
  have w16:wrap64 ((y.length:Int) - 16)=((y.length - 16:Nat):Int):=by unfold wrap64;omega
  rw [w15,w2,w7,w16,wrap_succ _ (by omega),ref_rotr_7,ref_rotr_18,ref_rotr_17,ref_rotr_19]
  simp only [Option.bind_some]
  refine Ev.pos (by omega) (Ev.pos (by omega) (Ev.pos (by omega) (Ev.pos (by omega) (Ev.pos (by omega) (Ev.pos (by omega) (Ev.pos (by omega) (Ev.pos (by omega) (Ev.pos (by omega) (Ev.pos (by omega) ?_)))))))))
  rw [set_pad,sdW_ge _ _ _ (by omega),getD_pad _ _ _ (by omega),getD_pad _ _ _ (by omega),getD_pad _ _ _ (by omega),getD_pad _ _ _ (by omega)]
  simp only [rd_nat]
  have key:∀ v v':Int,v=v'→Ev (fun k=>mosaicref01_Words.l1 k (y ++ [v]) ((y.length+1:Nat):Int)) (schedL l d (y.length+1) ((y ++ [v']) ++ List.replicate d 0)):=by
   rintro v v' rfl
   have:=ih (y ++ [v]) (by simp;omega) (by simp;omega)
   rw [List.length_append,List.length_singleton] at this
   exact this
  refine key _ _ ?_
  omega
theorem words_l0 (b:ByteArray) (hb:b.size=64) (d:Nat):∀ (y:List Int),y.length+d=16→Ev (fun k=>mosaicref01_Words.l0 k b y (y.length:Int)) (schedL (bytesOf b) (d+48) y.length (y ++ List.replicate (d+48) 0)):=by
 induction d with
 | zero =>
  intro y h
  refine Ev.succ ?_
  simp only [mosaicref01_Words.l0]
  refine Ev.neg (by omega) ?_
  have:=words_l1 (bytesOf b) 48 y (by omega) (by omega)
  rw [show (y.length:Int)=16 by omega] at this
  simpa using this
 | succ d ih =>
  intro y h
  refine Ev.succ ?_
  simp only [mosaicref01_Words.l0]
  have w0:wrap64 (4 * (y.length:Int))=4 * (y.length:Int):=by unfold wrap64;omega
  have w1:wrap64 (4 * (y.length:Int)+1)=4 * (y.length:Int)+1:=by unfold wrap64;omega
  have w2:wrap64 (4 * (y.length:Int)+2)=4 * (y.length:Int)+2:=by unfold wrap64;omega
  have w3:wrap64 (4 * (y.length:Int)+3)=4 * (y.length:Int)+3:=by unfold wrap64;omega
  rw [w0,w1,w2,w3,wrap_succ _ (by omega)]
  refine Ev.pos (by omega) (Ev.pos (by omega) (Ev.pos (by omega) (Ev.pos (by omega) (Ev.pos (by omega) (Ev.pos (by omega) (Ev.pos (by omega) (Ev.pos (by omega) (Ev.pos (by omega) (Ev.pos (by omega) ?_)))))))))
  rw [show d+1+48=(d+48)+1 by omega,schedL,set_pad,sdW,if_pos (by omega),word_eq b y.length (by omega) (by omega)]
  have key:∀ v:Int,Ev (fun k=>mosaicref01_Words.l0 k b (y ++ [v]) ((y.length+1:Nat):Int)) (schedL (bytesOf b) (d+48) (y.length+1) ((y ++ [v]) ++ List.replicate (d+48) 0)):=by
   intro v
   have:=ih (y ++ [v]) (by simp;omega)
   rw [List.length_append,List.length_singleton] at this
   exact this
  exact key _
theorem words_ev (b:ByteArray) (hb:b.size=64):Ev (fun k=>mosaicref01_Words.f k b) (sched (bytesOf b)):=words_l0 b hb 16 [] rfl
theorem max_u32:IntKind.u32.max=4294967295:=by decide
theorem mix_l0 (st kk ww:List Int) (hs:st.length=8) (hk:kk.length=64) (hw:ww.length=64) (d:Nat):∀ (t:Nat) (a b c e f g h i:Int),t+d=64 →
  Ev (fun k=>mosaicref01_Mix.l0 k st ww kk a b c e f g h i (t:Int)) (mixAdd st 8 0 (mixL kk ww d t [a,b,c,e,f,g,h,i])):=by
 induction d with
 | zero =>
  intro t a b c e f g h i ht
  obtain ⟨s0,s1,s2,s3,s4,s5,s6,s7,rfl⟩:=list8 st hs
  refine Ev.succ ?_
  simp only [mosaicref01_Mix.l0]
  refine Ev.neg (by omega) (Ev.pos (by simp) (Ev.pos (by simp) (Ev.pos (by simp) (Ev.pos (by simp) (Ev.pos (by simp) (Ev.pos (by simp) (Ev.pos (by simp) (Ev.pos (by simp) (Ev.some_ ?_)))))))))
  have:mixAdd [s0,s1,s2,s3,s4,s5,s6,s7] 8 0 (mixL kk ww 0 t [a,b,c,e,f,g,h,i])=[(a+s0) % 4294967296,(b+s1) % 4294967296,(c+s2) % 4294967296,(e+s3) % 4294967296,(f+s4) % 4294967296,(g+s5) % 4294967296,(h+s6) % 4294967296,(i+s7) % 4294967296]:=rfl
  rw [this]
  show [(s0+a) % 4294967296,(s1+b) % 4294967296,(s2+c) % 4294967296,(s3+e) % 4294967296,(s4+f) % 4294967296,(s5+g) % 4294967296,(s6+h) % 4294967296,(s7+i) % 4294967296]=_
  simp only [Int.add_comm]
 | succ d ih =>
  intro t a b c e f g h i ht
  refine Ev.succ ?_
  simp only [mosaicref01_Mix.l0]
  rw [ref_rotr_6,ref_rotr_11,ref_rotr_25,ref_rotr_2,ref_rotr_13,ref_rotr_22]
  simp only [Option.bind_some]
  refine Ev.pos (by omega) (Ev.pos (by omega) (Ev.pos (by omega) (Ev.pos (by omega) ?_)))
  rw [wrap_succ _ (by omega)]
  have key:∀ x x' y y':Int,x=x'→y=y'→Ev (fun k=>mosaicref01_Mix.l0 k st ww kk x a b c y f g h ((t+1:Nat):Int)) (mixAdd st 8 0 (mixL kk ww d (t+1) [x',a,b,c,y',f,g,h])):=by
   rintro x _ y _ rfl rfl
   exact ih (t+1) _ _ _ _ _ _ _ _ (by omega)
  rw [mixL,mixStep]
  refine key _ _ _ _ ?_ ?_
  ·
   unfold s1N chN s0N majN
   rw [max_u32,rd_nat,rd_nat]
   omega
  ·
   unfold s1N chN
   rw [max_u32,rd_nat,rd_nat]
   omega
theorem mix_ev (st:List Int) (b:ByteArray) (hs:st.length=8) (hb:b.size=64):Ev (fun k=>mosaicref01_Mix.f k st b) (mixB st (bytesOf b)):=by
 unfold mosaicref01_Mix.f
 refine Ev.bind (words_ev b hb) (Ev.call (show mosaicref01_K.f=some constK from rfl) ?_)
 have:=mix_l0 st constK (sched (bytesOf b)) hs constK_len (sched_len _) 64 0 (rd st 0) (rd st 1) (rd st 2) (rd st 3) (rd st 4) (rd st 5) (rd st 6) (rd st 7) rfl
 refine Ev.pos (by omega) (Ev.pos (by omega) (Ev.pos (by omega) (Ev.pos (by omega) (Ev.pos (by omega) (Ev.pos (by omega) (Ev.pos (by omega) (Ev.pos (by omega) (this.to ?_))))))))
 obtain ⟨s0,s1,s2,s3,s4,s5,s6,s7,rfl⟩:=list8 st hs
 rfl
/-! ### The padding, the sum -/
theorem refpad_l0 (n:Int) (h0:0≤n) (h1:n≤65536) (d:Nat):∀ j:Nat,((119 - n % 64) % 64).toNat=j+d→Ev (fun k=>mosaicref01_Pad.l0 k n ([128] ++ List.replicate j 0)) (padB n):=by
 induction d with
 | zero =>
  intro j hj
  refine Ev.succ ?_
  simp only [mosaicref01_Pad.l0]
  have hl:(([128] ++ List.replicate j (0:Int)).length:Int)=1+j:=by simp;omega
  have e1:wrap64 (n+(1+(j:Int)))=n+(1+j):=by unfold wrap64;omega
  have e2:wrap64 (n+(1+(j:Int))+8)=n+(1+j)+8:=by unfold wrap64;omega
  have e3:Int.tmod (n+(1+(j:Int))+8) 64=(n+(1+j)+8) % 64:=Int.tmod_eq_emod_of_nonneg (by omega)
  have e4:wrap64 (8 * n)=8 * n:=by unfold wrap64;omega
  rw [hl,e1,e2,e3,e4]
  have q1:Int.tdiv (8 * n) 16777216=8 * n / 16777216:=Int.tdiv_eq_ediv_of_nonneg (by omega)
  have q2:Int.tdiv (8 * n) 65536=8 * n / 65536:=Int.tdiv_eq_ediv_of_nonneg (by omega)
  have q3:Int.tdiv (8 * n) 256=8 * n / 256:=Int.tdiv_eq_ediv_of_nonneg (by omega)
  rw [q1,q2,q3]
  have u1:wrap64 (8 * n / 16777216)=8 * n / 16777216:=by unfold wrap64;omega
  have u2:wrap64 (8 * n / 65536)=8 * n / 65536:=by unfold wrap64;omega
  have u3:wrap64 (8 * n / 256)=8 * n / 256:=by unfold wrap64;omega
  rw [u1,u2,u3]
  have m1:Int.tmod (8 * n / 65536) 256=8 * n / 65536 % 256:=Int.tmod_eq_emod_of_nonneg (by omega)
  have m2:Int.tmod (8 * n / 256) 256=8 * n / 256 % 256:=Int.tmod_eq_emod_of_nonneg (by omega)
  have m3:Int.tmod (8 * n) 256=8 * n % 256:=Int.tmod_eq_emod_of_nonneg (by omega)
  rw [m1,m2,m3]
  refine Ev.pos (by omega) (Ev.some_bind (Ev.pos (by simp;omega) (Ev.some_ ?_)))
  unfold padB padL
  rw [show ((119 - n % 64) % 64).toNat=j by omega]
  congr 1
  congr 1
  simp
 | succ d ih =>
  intro j hj
  refine Ev.succ ?_
  simp only [mosaicref01_Pad.l0]
  have hl:(([128] ++ List.replicate j (0:Int)).length:Int)=1+j:=by simp;omega
  have e1:wrap64 (n+(1+(j:Int)))=n+(1+j):=by unfold wrap64;omega
  have e2:wrap64 (n+(1+(j:Int))+8)=n+(1+j)+8:=by unfold wrap64;omega
  have e3:Int.tmod (n+(1+(j:Int))+8) 64=(n+(1+j)+8) % 64:=Int.tmod_eq_emod_of_nonneg (by omega)
  rw [hl,e1,e2,e3]
  refine Ev.neg (by omega) (Ev.pos (by simp;omega) ?_)
  have:=ih (j+1) (by omega)
  rw [List.replicate_succ',← List.append_assoc] at this
  exact this
theorem refpad_ev (n:Int) (h0:0≤n) (h1:n≤65536):Ev (fun k=>mosaicref01_Pad.f k n) (padB n):=by
 unfold mosaicref01_Pad.f
 refine Ev.neg (by omega) ?_
 rw [decide_eq_false (show ¬ n > 65536 by omega)]
 refine Ev.succ ?_
 simp only [mosaicref01_Pad.j0]
 exact Ev.neg (by simp) (refpad_l0 n h0 h1 _ 0 (Nat.zero_add _).symm)
theorem bytesOf_append (s t:ByteArray):bytesOf (s ++ t)=bytesOf s ++ bytesOf t:=by
 unfold bytesOf
 rw [ByteArray.data_append,Array.toList_append,List.map_append]
theorem bytesOf_extract (s:ByteArray) (a b:Nat):bytesOf (s.extract a b)=((bytesOf s).drop a).take (b - a):=by
 unfold bytesOf
 rw [ByteArray.data_extract,Array.toList_extract,List.map_take,List.map_drop]
theorem blocks_more:∀ (k k':Nat) (st l:List Int),l.length≤64 * k→l.length≤64 * k'→blocks k st l=blocks k' st l
 | 0,0,_,_,_,_=>rfl
 | 0,k'+1,st,l,h,_=>by rw [blocks,blocks,if_neg (by omega)]
 | k+1,0,st,l,_,h=>by rw [blocks,blocks,if_neg (by omega)]
 | k+1,k'+1,st,l,h,h'=>by
  rw [blocks,blocks,blocks_more k k' _ _ (by rw [List.length_drop];omega) (by rw [List.length_drop];omega)]
theorem hashGo_blocks:∀ (k:Nat) (st p:List Int) (s:ByteArray) (pad:List Int) (K:Nat),s.size < k→p.length < 64→pad.length≤72→p.length+s.size+pad.length≤64 * K →
  blocks 3 (hashGo k st p s).1 ((hashGo k st p s).2 ++ pad)=blocks K st (p ++ bytesOf s ++ pad)
 | 0,st,p,s,pad,K,h,_,_,_=>by omega
 | k+1,st,p,s,pad,K,h,hp,hd,hK=>by
  have hl:(p ++ bytesOf (s.extract 0 (min (64 - p.length) s.size))).length=p.length+min (64 - p.length) s.size:=by
   rw [List.length_append,bytesOf_length]
   simp
  have hs:=bytesOf_length s
  rw [hashGo]
  by_cases c:(p ++ bytesOf (s.extract 0 (min (64 - p.length) s.size))).length=64
  ·
   rw [if_pos c]
   have h2:(s.extract (min (64 - p.length) s.size) s.size).size=s.size - min (64 - p.length) s.size:=by simp
   obtain ⟨K,rfl⟩:∃ m,K=m+1:=⟨K - 1,by omega⟩
   rw [hashGo_blocks k _ [] _ pad K (by omega) (by simp) hd (by simp only [List.length_nil];omega)]
   have hm:min (64 - p.length) s.size=64 - p.length:=by omega
   rw [blocks,if_pos (by simp only [List.length_append];omega)]
   rw [hm,bytesOf_extract,bytesOf_extract,List.drop_zero,Nat.sub_zero,List.nil_append]
   have e1:((bytesOf s).drop (64 - p.length)).take (s.size - (64 - p.length))=(bytesOf s).drop (64 - p.length):=List.take_of_length_le (by rw [List.length_drop,hs];omega)
   rw [e1]
   have e2:(p ++ bytesOf s ++ pad).take 64=p ++ (bytesOf s).take (64 - p.length):=by
    rw [List.append_assoc,List.take_append,List.take_of_length_le (by omega),List.take_append,show 64 - p.length - (bytesOf s).length=0 by omega,List.take_zero,List.append_nil]
   have e3:(p ++ bytesOf s ++ pad).drop 64=(bytesOf s).drop (64 - p.length) ++ pad:=by
    rw [List.append_assoc,List.drop_append,List.drop_of_length_le (by omega),List.nil_append,List.drop_append,show 64 - p.length - (bytesOf s).length=0 by omega,List.drop_zero]
   rw [e2,e3]
  ·
   rw [if_neg c]
   have hm:min (64 - p.length) s.size=s.size:=by omega
   have e:bytesOf (s.extract 0 (min (64 - p.length) s.size))=bytesOf s:=by
    rw [hm,bytesOf_extract,List.drop_zero,Nat.sub_zero]
    exact List.take_of_length_le (by omega)
   rw [e]
   refine blocks_more _ _ _ _ ?_ ?_
   ·
    simp only [List.length_append]
    omega
   ·
    simp only [List.length_append]
    omega
theorem bytesOf_strOfNums (l:List Int) (h:∀ x∈l,0≤x∧x≤255):bytesOf (strOfNums l)=l:=by
 unfold bytesOf
 rw [strOfNums_data,List.map_map]
 conv=>rhs;rw [← List.map_id l]
 refine List.map_congr_left fun x hx=>?_
 have:=h x hx
 have e:(UInt8.ofNat x.toNat).toNat=x.toNat:=UInt8.toNat_ofNat_of_lt' (by show x.toNat < 256;omega)
 simp only [Function.comp,e,id]
 omega
/-- The sum, block by block. -/
theorem shaSum_eq (s:ByteArray) (h:s.size≤65536) (K:Nat) (hK:s.size+72≤64 * K):shaSum s=strOfNums (outB (blocks K startS (bytesOf s ++ padL s.size))):=by
 have hl:=padL_length (s.size:Int) (by omega)
 unfold shaSum
 rw [padB,bytesOf_strOfNums _ (padL_range _),hashGo_blocks (s.size+1) startS [] s (padL s.size) K (by omega) (by simp) (by omega) (by simp only [List.length_nil];omega),List.nil_append]
theorem refsum_l1 (st acc:List Int) (hs:st.length=8) (d:Nat):∀ (i:Nat) (acc:List Int),i+d=8→acc.length=4 * i→Ev (fun k=>mosaicref01_Sum.l1 k st acc (i:Int)) (strOfNums (acc ++ outB (st.drop i))):=by
 induction d with
 | zero =>
  intro i acc hi ha
  refine Ev.succ ?_
  simp only [mosaicref01_Sum.l1]
  refine Ev.neg (by omega) (Ev.some_ ?_)
  rw [List.drop_of_length_le (by omega)]
  simp [outB]
 | succ d ih =>
  intro i acc hi ha
  refine Ev.succ ?_
  simp only [mosaicref01_Sum.l1]
  refine Ev.pos (by omega) (Ev.pos (by omega) (Ev.some_bind (Ev.pos (by simp;omega) ?_)))
  rw [wrap_succ _ (by omega),outB_step st i (by omega),← List.append_assoc,rd_nat]
  exact ih (i+1) _ (by omega) (by simp;omega)
theorem refsum_l0 (t:ByteArray) (ht:t.size≤100000) (d:Nat):∀ (st:List Int) (i:Nat),t.size=i+64 * d→st.length=8→Ev (fun k=>mosaicref01_Sum.l0 k t st (i:Int)) (strOfNums (outB (blocks d st ((bytesOf t).drop i)))):=by
 induction d with
 | zero =>
  intro st i hi hs
  refine Ev.succ ?_
  simp only [mosaicref01_Sum.l0,blocks]
  refine Ev.neg (by omega) ?_
  have:=refsum_l1 st [] hs 8 0 [] rfl rfl
  simpa using this
 | succ d ih =>
  intro st i hi hs
  refine Ev.succ ?_
  simp only [mosaicref01_Sum.l0]
  have e1:wrap64 ((i:Int)+64)=((i+64:Nat):Int):=by unfold wrap64;omega
  have hl:=bytesOf_length t
  rw [e1]
  refine Ev.pos (by omega) (Ev.pos (by omega) (Ev.pos (by omega) (Ev.pos (by omega) ?_)))
  have hx:(t.extract ((i:Int)).toNat (((i+64:Nat):Int)).toNat).size=64:=by simp;omega
  have hm:=mix_ev st _ hs hx
  refine Ev.bind hm ?_
  have hb:bytesOf (t.extract ((i:Int)).toNat (((i+64:Nat):Int)).toNat)=((bytesOf t).drop i).take 64:=by
   rw [bytesOf_extract]
   congr 1
   omega
  rw [hb,blocks,if_pos (by rw [List.length_drop];omega),List.drop_drop]
  exact ih _ (i+64) (by omega) (mixB_len _ _ hs)
/-- The reference's sum is the program's. -/
theorem refsum_ev (s:ByteArray) (h:s.size≤65536):Ev (fun k=>mosaicref01_Sum.f k s) (shaSum s):=by
 have hp:=padB_size (s.size:Int) (by omega)
 have hz:(s ++ padB s.size).size=s.size+(padB s.size).size:=by rw [ByteArray.size_append]
 unfold mosaicref01_Sum.f
 refine Ev.neg (by omega) (Ev.bind (refpad_ev _ (by omega) (by omega)) (Ev.pos (by omega) (Ev.call (show mosaicref01_Start.f=some startS from rfl) ?_)))
 have:=refsum_l0 (s ++ padB s.size) (by omega) ((s ++ padB s.size).size / 64) startS 0 (by omega) rfl
 refine this.to ?_
 rw [shaSum_eq s h ((s.size+72) / 64+1) (by omega),List.drop_zero,bytesOf_append,padB,bytesOf_strOfNums _ (padL_range _)]
 have hl:=padL_length (s.size:Int) (by omega)
 have hb:=bytesOf_length s
 congr 2
 refine blocks_more _ _ _ _ ?_ ?_
 ·
  rw [List.length_append]
  rw [← padB,hz]
  omega
 ·
  rw [List.length_append]
  omega
theorem outB_length (st:List Int):(outB st).length=4 * st.length:=by
 induction st with
 | nil=>rfl
 | cons a l ih=>rw [outB,List.flatMap_cons,List.length_append,← outB,ih];simp;omega
theorem blocks_len:∀ (k:Nat) (st l:List Int),st.length=8→(blocks k st l).length=8
 | 0,_,_,h=>h
 | k+1,st,l,h=>by
  rw [blocks]
  split
  ·
   exact blocks_len k _ _ (mixB_len _ _ h)
  ·
   exact h
theorem shaSum_size (s:ByteArray):(shaSum s).size=32:=by
 unfold shaSum
 rw [strOfNums_size,outB_length,blocks_len _ _ _ (hashGo_len _ _ _ _ (by omega) (by simp) rfl).1]
theorem sha_f (s:ByteArray) (h:s.size≤65536):sha_Sum.f s=some (shaSum s):=if_pos h
end Go.Proofs.Ytelcaepenfjloaa.Pure
/-! #### PureMer1 -/
/- Trees of sums in plain words: the levels' pairs come to the root that halves come to; paths and their lengths. -/
namespace Go.Proofs.Ytelcaepenfjloaa.Pure
open Go.RowKit Go.Proofs.Ytelcaepenfjloaa.Print Go.Proofs.YtelcaepenfjloaaW.PrintWords Go.Proofs.YtelcaepenfjloaaW.PrintLast Go.Proofs.YtelcaepenfjloaaW.PrintMore
set_option linter.unusedVariables false
set_option linter.unusedSimpArgs false
def leafT (s:ByteArray):ByteArray:=(⟨#[0]⟩:ByteArray) ++ s
def knotT (l r:ByteArray):ByteArray:=((⟨#[1]⟩:ByteArray) ++ l) ++ r
def leafD (s:ByteArray):ByteArray:=shaSum (leafT s)
def knotD (l r:ByteArray):ByteArray:=shaSum (knotT l r)
theorem leafT_size (s:ByteArray):(leafT s).size=1+s.size:=by
 rw [leafT,ByteArray.size_append]
 rfl
theorem knotT_size (l r:ByteArray):(knotT l r).size=1+l.size+r.size:=by
 rw [knotT,ByteArray.size_append,ByteArray.size_append]
 rfl
theorem leafD_size (s:ByteArray):(leafD s).size=32:=shaSum_size _
theorem knotD_size (l r:ByteArray):(knotD l r).size=32:=shaSum_size _
theorem leaf_f (s:ByteArray) (h:s.size≤65535):merkle_Leaf.f s=some (leafD s):=by
 have hz:=leafT_size s
 unfold merkle_Leaf.f
 rw [if_pos (by omega)]
 show (sha_Sum.f (leafT s)).bind _=_
 rw [sha_f _ (by omega)]
 rfl
theorem knot_f (l r:ByteArray) (h:l.size+r.size≤65535):merkle_knot.f l r=some (knotT l r):=by
 have h1:((⟨#[1]⟩:ByteArray) ++ l).size=1+l.size:=by
  rw [ByteArray.size_append]
  rfl
 unfold merkle_knot.f
 rw [if_pos (by omega),if_pos (by omega)]
 rfl
theorem Knot_f (l r:ByteArray) (h:l.size+r.size≤65535):merkle_Knot.f l r=some (knotD l r):=by
 have hz:=knotT_size l r
 unfold merkle_Knot.f
 rw [knot_f l r h]
 simp only [Option.bind_some]
 rw [sha_f _ (by omega)]
 rfl
/-! ### Halves -/
def halfN (n:Nat):Nat:=2 ^ (n - 1).log2
theorem halfN_lt (n:Nat) (h:2≤n):halfN n < n:=by
 have:=Nat.log2_self_le (show n - 1≠0 by omega)
 unfold halfN
 omega
theorem halfN_pos (n:Nat):1≤halfN n:=Nat.one_le_two_pow
theorem halfN_ge (n:Nat):n≤2 * halfN n:=by
 have:=Nat.lt_log2_self (n:=n - 1)
 rw [Nat.pow_succ] at this
 unfold halfN
 omega
theorem halfN_two (n:Nat) (h:3≤n):halfN n=2 * halfN ((n+1) / 2):=by
 unfold halfN
 rw [show (n+1) / 2 - 1=(n - 1) / 2 by omega]
 conv=>lhs;rw [Nat.log2_def,if_pos (by omega),Nat.pow_succ]
 omega
/-! ### Pairs -/
def pairsM:List ByteArray→List ByteArray
 | []=>[]
 | [a]=>[a]
 | a :: b :: l=>knotD a b :: pairsM l
theorem pairsM_length:∀ l:List ByteArray,(pairsM l).length=(l.length+1) / 2
 | []=>by simp [pairsM]
 | [_]=>by simp [pairsM]
 | _ :: _ :: l=>by
  rw [pairsM,List.length_cons,pairsM_length l]
  simp
  omega
theorem pairsM_append:∀ a b:List ByteArray,a.length % 2=0→pairsM (a ++ b)=pairsM a ++ pairsM b
 | [],_,_=>rfl
 | [_],_,h=>by simp at h
 | x :: y :: a,b,h=>by
  show knotD x y :: pairsM (a ++ b)=_
  rw [pairsM_append a b (by simp at h;omega)]
  rfl
theorem pairsM_size:∀ l:List ByteArray,(∀ x∈l,x.size=32)→∀ x∈pairsM l,x.size=32
 | [],_,x,h=>by simp [pairsM] at h
 | [a],h,x,hx=>h x hx
 | a :: b :: l,h,x,hx=>by
  rcases List.mem_cons.1 hx with rfl|hx
  ·
   exact knotD_size _ _
  ·
   exact pairsM_size l (fun y hy=>h y (by simp [hy])) x hx
/-! ### The root, by halves -/
def topM (l:List ByteArray):ByteArray :=
 if h:l.length≤1 then l.headD ByteArray.empty
 else knotD (topM (l.take (halfN l.length))) (topM (l.drop (halfN l.length)))
termination_by l.length
decreasing_by
 ·
  have:=halfN_lt l.length (by omega)
  rw [List.length_take]
  omega
 ·
  have:=halfN_pos l.length
  rw [List.length_drop]
  omega
theorem topM_one (a:ByteArray):topM [a]=a:=by
 rw [topM]
 rfl
theorem topM_two (l:List ByteArray) (h:2≤l.length):topM l=knotD (topM (l.take (halfN l.length))) (topM (l.drop (halfN l.length))):=by
 conv=>lhs;rw [topM]
 rw [dif_neg (by omega)]
theorem list1 (l:List ByteArray) (h:l.length=1):∃ a,l=[a]:=by
 match l,h with
 | [a],_=>exact ⟨a,rfl⟩
theorem list2 (l:List ByteArray) (h:l.length=2):∃ a b,l=[a,b]:=by
 match l,h with
 | [a,b],_=>exact ⟨a,b,rfl⟩
theorem halfN_2:halfN 2=1:=by decide
/-- A level's pairs, cut where the level is cut. -/
theorem pairs_cut (l:List ByteArray) (h:3≤l.length):(pairsM l).take (halfN (pairsM l).length)=pairsM (l.take (halfN l.length))∧(pairsM l).drop (halfN (pairsM l).length)=pairsM (l.drop (halfN l.length)):=by
 have h2:=halfN_two l.length h
 have hlt:=halfN_lt l.length (by omega)
 have e:pairsM l=pairsM (l.take (halfN l.length)) ++ pairsM (l.drop (halfN l.length)):=by
  rw [← pairsM_append _ _ (by rw [List.length_take];omega),List.take_append_drop]
 have hl:(pairsM (l.take (halfN l.length))).length=halfN (pairsM l).length:=by
  rw [pairsM_length,pairsM_length,List.length_take]
  omega
 constructor
 ·
  rw [← hl]
  conv=>lhs;rw [e]
  exact List.take_left
 ·
  rw [← hl]
  conv=>lhs;rw [e]
  exact List.drop_left
theorem pairs_top (n:Nat):∀ l:List ByteArray,l.length=n→1≤n→topM (pairsM l)=topM l:=by
 induction n using Nat.strongRecOn with
 | _ n ih =>
  intro l hl hn
  by_cases h1:n=1
  ·
   obtain ⟨a,rfl⟩:=list1 l (by omega)
   rfl
  by_cases h2:n=2
  ·
   obtain ⟨a,b,rfl⟩:=list2 l (by omega)
   rw [topM_two [a,b] (by simp)]
   show topM [knotD a b]=knotD (topM ([a,b].take (halfN 2))) (topM ([a,b].drop (halfN 2)))
   rw [halfN_2]
   show topM [knotD a b]=knotD (topM [a]) (topM [b])
   rw [topM_one,topM_one,topM_one]
  have hlt:=halfN_lt l.length (by omega)
  have hps:=halfN_pos l.length
  obtain ⟨e1,e2⟩:=pairs_cut l (by omega)
  rw [topM_two (pairsM l) (by rw [pairsM_length];omega),e1,e2,ih (l.take (halfN l.length)).length (by rw [List.length_take];omega) _ rfl (by rw [List.length_take];omega),
   ih (l.drop (halfN l.length)).length (by rw [List.length_drop];omega) _ rfl (by rw [List.length_drop];omega),topM_two l (by omega)]
/-! ### The path of a leaf -/
def sib (i:Nat):Nat:=if i % 2=0 then i+1 else i - 1
theorem sib_xor (i:Nat) (h:i < 256):Go.bits .xor .i64 (i:Int) 1=(sib i:Int):=by
 have:∀ i:Fin 256,Go.bits .xor .i64 (i.val:Int) 1=(sib i.val:Int):=by decide +kernel
 exact this ⟨i,h⟩
def wayM (l:List ByteArray) (i:Nat):List ByteArray :=
 if h:l.length≤1 then []
 else if i < halfN l.length then wayM (l.take (halfN l.length)) i ++ [topM (l.drop (halfN l.length))]
 else wayM (l.drop (halfN l.length)) (i - halfN l.length) ++ [topM (l.take (halfN l.length))]
termination_by l.length
decreasing_by
 ·
  have:=halfN_lt l.length (by omega)
  rw [List.length_take]
  omega
 ·
  have:=halfN_pos l.length
  rw [List.length_drop]
  omega
theorem wayM_one (a:ByteArray) (i:Nat):wayM [a] i=[]:=by
 rw [wayM]
 rfl
theorem wayM_left (l:List ByteArray) (i:Nat) (h:2≤l.length) (hi:i < halfN l.length):wayM l i=wayM (l.take (halfN l.length)) i ++ [topM (l.drop (halfN l.length))]:=by
 conv=>lhs;rw [wayM]
 rw [dif_neg (by omega),if_pos hi]
theorem wayM_right (l:List ByteArray) (i:Nat) (h:2≤l.length) (hi:¬ i < halfN l.length):wayM l i=wayM (l.drop (halfN l.length)) (i - halfN l.length) ++ [topM (l.take (halfN l.length))]:=by
 conv=>lhs;rw [wayM]
 rw [dif_neg (by omega),if_neg hi]
def sibL (l:List ByteArray) (i:Nat):List ByteArray:=if sib i < l.length then [l.getD (sib i) ByteArray.empty] else []
theorem getD_take {α:Type} (l:List α) (k i:Nat) (d:α) (h:i < k):(l.take k).getD i d=l.getD i d:=by
 simp [List.getD_eq_getElem?_getD,List.getElem?_take,h]
theorem getD_drop {α:Type} (l:List α) (k i:Nat) (d:α):(l.drop k).getD i d=l.getD (k+i) d:=by
 simp [List.getD_eq_getElem?_getD,List.getElem?_drop]
theorem way_step (n:Nat):∀ (l:List ByteArray) (i:Nat),l.length=n→2≤n→i < n→wayM l i=sibL l i ++ wayM (pairsM l) (i / 2):=by
 induction n using Nat.strongRecOn with
 | _ n ih =>
  intro l i hl hn hi
  by_cases h2:n=2
  ·
   obtain ⟨a,b,rfl⟩:=list2 l (by omega)
   have hh:halfN [a,b].length=1:=halfN_2
   rcases (by omega:i=0∨i=1) with rfl|rfl
   ·
    rw [wayM_left _ _ (by simp) (by rw [hh];omega),hh]
    show wayM [a] 0 ++ [topM [b]]=[b] ++ wayM [knotD a b] 0
    rw [wayM_one,wayM_one,topM_one]
    rfl
   ·
    rw [wayM_right _ _ (by simp) (by rw [hh];omega),hh]
    show wayM [b] 0 ++ [topM [a]]=[a] ++ wayM [knotD a b] 0
    rw [wayM_one,wayM_one,topM_one]
    rfl
  have hlt:=halfN_lt l.length (by omega)
  have hps:=halfN_pos l.length
  have hge:=halfN_ge l.length
  have ht:=halfN_two l.length (by omega)
  have hpl:=pairsM_length l
  have hhp:halfN (pairsM l).length=halfN ((l.length+1) / 2):=by rw [hpl]
  have hp1:=halfN_pos ((l.length+1) / 2)
  obtain ⟨e1,e2⟩:=pairs_cut l (by omega)
  have hsib:sib i / 2=i / 2:=by unfold sib;split <;> omega
  by_cases hc:i < halfN l.length
  ·
   have hsk:sib i < halfN l.length:=by unfold sib;split <;> omega
   rw [wayM_left l i (by omega) hc,wayM_left (pairsM l) (i / 2) (by omega) (by omega),e1,e2,pairs_top _ _ rfl (by rw [List.length_drop];omega)]
   rw [ih (l.take (halfN l.length)).length (by rw [List.length_take];omega) _ i rfl (by rw [List.length_take];omega) (by rw [List.length_take];omega),List.append_assoc]
   congr 1
   unfold sibL
   rw [List.length_take,if_pos (by omega),if_pos (by omega),getD_take _ _ _ _ hsk]
  ·
   rw [wayM_right l i (by omega) hc,wayM_right (pairsM l) (i / 2) (by omega) (by omega),e1,e2,pairs_top _ _ rfl (by rw [List.length_take];omega)]
   have hs:sib (i - halfN l.length)+halfN l.length=sib i:=by
    unfold sib
    split
    ·
     rw [if_pos (by omega)]
     omega
    ·
     rw [if_neg (by omega)]
     omega
   by_cases h1:(l.drop (halfN l.length)).length=1
   ·
    obtain ⟨a,ha⟩:=list1 _ h1
    rw [List.length_drop] at h1
    have e0:i - halfN l.length=0:=by omega
    have hd:i / 2 - halfN (pairsM l).length=0:=by omega
    rw [ha,e0,hd]
    show wayM [a] 0 ++ _=_ ++ (wayM [a] 0 ++ _)
    rw [wayM_one]
    have:sibL l i=[]:=by
     unfold sibL
     rw [if_neg]
     have:sib 0=1:=rfl
     rw [e0,this] at hs
     omega
    rw [this]
    rfl
   ·
    rw [List.length_drop] at h1
    rw [ih (l.drop (halfN l.length)).length (by rw [List.length_drop];omega) _ (i - halfN l.length) rfl (by rw [List.length_drop];omega) (by rw [List.length_drop];omega),List.append_assoc]
    rw [show (i - halfN l.length) / 2=i / 2 - halfN (pairsM l).length by omega]
    congr 1
    unfold sibL
    rw [List.length_drop,getD_drop,Nat.add_comm,hs]
    by_cases hz:sib i < l.length
    ·
     rw [if_pos hz,if_pos (by omega)]
    ·
     rw [if_neg hz,if_neg (by omega)]
/-! ### How long a path is -/
def depthM (n i:Nat):Nat :=
 if h:n≤1 then 0
 else if i < halfN n then depthM (halfN n) i+1
 else depthM (n - halfN n) (i - halfN n)+1
termination_by n
decreasing_by
 ·
  exact halfN_lt n (by omega)
 ·
  have:=halfN_pos n
  omega
theorem depthM_one (n i:Nat) (h:n≤1):depthM n i=0:=by
 rw [depthM,dif_pos h]
theorem depthM_left (n i:Nat) (h:2≤n) (hi:i < halfN n):depthM n i=depthM (halfN n) i+1:=by
 conv=>lhs;rw [depthM]
 rw [dif_neg (by omega),if_pos hi]
theorem depthM_right (n i:Nat) (h:2≤n) (hi:¬ i < halfN n):depthM n i=depthM (n - halfN n) (i - halfN n)+1:=by
 conv=>lhs;rw [depthM]
 rw [dif_neg (by omega),if_neg hi]
theorem way_length (n:Nat):∀ (l:List ByteArray) (i:Nat),l.length=n→(wayM l i).length=depthM n i:=by
 induction n using Nat.strongRecOn with
 | _ n ih =>
  intro l i hl
  by_cases h1:n≤1
  ·
   rw [depthM_one n i h1,wayM,dif_pos (by omega)]
   rfl
  have hlt:=halfN_lt l.length (by omega)
  have hps:=halfN_pos l.length
  by_cases hc:i < halfN l.length
  ·
   rw [wayM_left l i (by omega) hc,depthM_left n i (by omega) (by rw [← hl];exact hc),List.length_append,ih (halfN n) (by rw [← hl];omega) _ i (by rw [List.length_take,← hl];omega)]
   rfl
  ·
   rw [wayM_right l i (by omega) hc,depthM_right n i (by omega) (by rw [← hl];exact hc),List.length_append,ih (n - halfN n) (by rw [← hl];omega) _ _ (by rw [List.length_drop,hl]),hl]
   rfl
theorem depth_step (n i:Nat) (h:2≤n) (hi:i < n):depthM n i=(if sib i < n then 1 else 0)+depthM ((n+1) / 2) (i / 2):=by
 have e:=way_step n (List.replicate n ByteArray.empty) i (by simp) h hi
 have e2:=congrArg List.length e
 rw [List.length_append,way_length n _ i (by simp),way_length ((n+1) / 2) _ (i / 2) (by rw [pairsM_length];simp)] at e2
 rw [e2]
 congr 1
 unfold sibL
 rw [List.length_replicate]
 split <;> rfl
end Go.Proofs.Ytelcaepenfjloaa.Pure
/-! #### Pr94 -/
namespace Go.Proofs.Ytelcaepenfjloaa.Print
open Go.RowKit Go.Proofs.YtelcaepenfjloaaW.PrintWords Go.Proofs.YtelcaepenfjloaaW.PrintLast Go.Proofs.YtelcaepenfjloaaW.PrintMore
attribute [local go_sem] max2_int min2_int max_two min_two max_three min_three max_four min_four
set_option linter.unusedVariables false
set_option linter.unusedSimpArgs false
/-! ### mosaicref03_May: function 94 -/
def mosaicref03_May.l0:Nat→List ByteArray→Int→Option (Int)
 | 0,_,_=>none
 | k+1,x0,x3=>if x3 < (x0.length:Int) then (if 0≤x3 then (if ((rdOf ByteArray.empty x0 x3).size:Int) > 1024 then (some 2) else (mosaicref03_May.l0 k x0 (wrap64 (x3+1)))) else (none)) else (some 0)
def mosaicref03_May.f (k:Nat) (l0:List ByteArray):Option (Int):=if (l0.length:Int)=0 then (some 1) else (if (l0.length:Int) > 256 then (some 2) else (mosaicref03_May.l0 k l0 0))
theorem mosaicref03_May.mono_l:∀ k,(∀ y0 y1,LeO (mosaicref03_May.l0 k y0 y1) (mosaicref03_May.l0 (k+1) y0 y1))
 | 0=>fun _ _ r h=>by simp [mosaicref03_May.l0] at h
 | k+1=>by
  have ih0:=mosaicref03_May.mono_l k
  ·
   intro y0 y1
   unfold mosaicref03_May.l0
   repeat' first
   | (with_reducible exact ih0 _ _)
   | (with_reducible exact LeO.refl _)
   | (with_reducible exact LeO.none _)
   | (with_reducible refine LeO.ite ?_ ?_)
   | (with_reducible refine LeO.bind ?_ (fun _=>?_))
   | exact ih0 _ _
   | exact LeO.none _
   | refine LeO.ite ?_ ?_
   | refine LeO.bind ?_ (fun _=>?_)
theorem mosaicref03_May.mono:∀ a0 k,LeO (mosaicref03_May.f k a0) (mosaicref03_May.f (k+1) a0):=by
 intro a0 k
 have ih0:=mosaicref03_May.mono_l k
 unfold mosaicref03_May.f
 repeat' first
   | (with_reducible exact ih0 _ _)
   | (with_reducible exact LeO.refl _)
   | (with_reducible exact LeO.none _)
   | (with_reducible refine LeO.ite ?_ ?_)
   | (with_reducible refine LeO.bind ?_ (fun _=>?_))
   | exact ih0 _ _
   | exact LeO.none _
   | refine LeO.ite ?_ ?_
   | refine LeO.bind ?_ (fun _=>?_)
set_option maxHeartbeats 8000000 in
set_option maxRecDepth 100000 in
theorem mosaicref03_May.calls (k:Nat) (A0:Option Addr) (c0:Nat) (l0:List ByteArray) (r:Int) (w:World) (hr0:Kd.C Kd.string w A0 l0.length l0) (hc0:l0.length≤c0) (h:mosaicref03_May.f k l0=some r) :
  Calls Try.prog 94 #[.slice A0 l0.length c0] w fun e w'=>e=.returned (.int .i64 r)∧Drawn0 w w':=by
 have HR0:=Aside0.mk hr0
 have HC0:=Aside0.mk hc0
 clear hr0 hc0
 have H:(if (l0.length:Int)=0 then (some 1) else (if (l0.length:Int) > 256 then (some 2) else (mosaicref03_May.l0 k l0 0)))=some r:=h
 clear h
 by_cases c2:(l0.length:Int)=0
 ·
  rw [if_pos c2] at H
  have c2b0:((l0.length:Int) == 0)=true:=beq_iff_eq.mpr c2
  have c2b1:((l0.length:Int) != 0)=false:=bne_eq_false_iff_eq.mpr c2
  clear c2
  obtain rfl:=Option.some.inj H
  go_enter Try.func94,Try.ntmps94
  go_wp2
  go_ret
  exact ⟨by first|rfl|(simp;done)|(simp [*];done),by repeat (first|exact Drawn0.refl _|apply Drawn0.step)⟩
 ·
  rw [if_neg c2] at H
  have c2b0:((l0.length:Int) == 0)=false:=beq_eq_false_iff_ne.mpr c2
  have c2b1:((l0.length:Int) != 0)=true:=bne_iff_ne.mpr c2
  have c2b2:¬ (l0=[]):=fun h_=>c2 (by rw [h_];rfl)
  by_cases c3:(l0.length:Int) > 256
  ·
   rw [if_pos c3] at H
   have c3b0:decide (256 < (l0.length:Int))=true:=decide_eq_true c3
   have c3b1:decide (256 < l0.length)=true:=decide_eq_true (by omega)
   clear c3
   obtain rfl:=Option.some.inj H
   go_enter Try.func94,Try.ntmps94
   go_wp2
   go_ret
   exact ⟨by first|rfl|(simp;done)|(simp [*];done),by repeat (first|exact Drawn0.refl _|apply Drawn0.step)⟩
  ·
   rw [if_neg c3] at H
   have c3b0:decide (256 < (l0.length:Int))=false:=decide_eq_false c3
   have c3b1:decide (256 < l0.length)=false:=decide_eq_false (by omega)
   clear c3
   have H':=Aside0.mk H
   clear H
   go_enter Try.func94,Try.ntmps94
   go_wp2
   go_loopg [3] k (fun kq v3 w'=>∃ (x3_1:Int),v3=.int .i64 x3_1∧Aside0 (mosaicref03_May.l0 kq l0 x3_1=some r)∧Aside0 (kq≤k)∧Drawn0 w w')
   case atStart=>exact ⟨(0),(by first|rfl|(simp;done)|(simp [*];done)),H',⟨Nat.le_refl _⟩,by repeat (first|exact Drawn0.refl _|apply Drawn0.step)⟩
   case round =>
    clear H'
    try clear c2
    try clear c2b0
    try clear c2b1
    try clear c2b2
    try clear p2
    try clear c3
    try clear c3b0
    try clear c3b1
    obtain ⟨x3_1,rfl,HA,HK1,⟨m1,rfl⟩⟩:=hrel
    cases gk with
    | zero=>exact absurd HA.out (by simp [mosaicref03_May.l0])
    | succ k1 =>
     have H:=HA.out
     clear HA
     simp only [mosaicref03_May.l0] at H
     by_cases c4:x3_1 < (l0.length:Int)
     ·
      rw [if_pos c4] at H
      have c4b0:decide (x3_1 < (l0.length:Int))=true:=decide_eq_true c4
      clear c4
      by_cases c5:0≤x3_1
      ·
       rw [if_pos c5] at H
       have c5b0:decide (0≤x3_1)=true:=decide_eq_true c5
       clear c5
       by_cases c6:((rdOf ByteArray.empty l0 x3_1).size:Int) > 1024
       ·
        rw [if_pos c6] at H
        have c6b0:decide (1024 < ((rdOf ByteArray.empty l0 x3_1).size:Int))=true:=decide_eq_true c6
        have c6b1:decide (1024 < (rdOf ByteArray.empty l0 x3_1).size)=true:=decide_eq_true (by omega)
        clear c6
        obtain rfl:=Option.some.inj H
        have p304:0≤(x3_1:Int):=of_decide_eq_true (by first|(with_reducible assumption)|assumption)
        have q304:x3_1 < (l0.length:Int):=of_decide_eq_true (by first|(with_reducible assumption)|assumption)
        obtain ⟨ad304,e304,hx304_0⟩:=Kd.at_string HR0.out x3_1 p304 q304
        cases e304
        replace p304:=eq_true p304
        replace q304:=eq_true q304
        go_wp2
        go_ret
        exact ⟨by first|rfl|(simp;done)|(simp [*];done),by repeat (first|exact Drawn0.refl _|apply Drawn0.step)⟩
       ·
        rw [if_neg c6] at H
        have c6b0:decide (1024 < ((rdOf ByteArray.empty l0 x3_1).size:Int))=false:=decide_eq_false c6
        have c6b1:decide (1024 < (rdOf ByteArray.empty l0 x3_1).size)=false:=decide_eq_false (by omega)
        clear c6
        have H':=Aside0.mk H
        clear H
        have p304:0≤(x3_1:Int):=of_decide_eq_true (by first|(with_reducible assumption)|assumption)
        have q304:x3_1 < (l0.length:Int):=of_decide_eq_true (by first|(with_reducible assumption)|assumption)
        obtain ⟨ad304,e304,hx304_0⟩:=Kd.at_string HR0.out x3_1 p304 q304
        cases e304
        replace p304:=eq_true p304
        replace q304:=eq_true q304
        go_wp2
        go_roundg k1
        case measure=>have:=HK1.out;omega
        case rel=>exact ⟨(wrap64 (x3_1+1)),(by first|rfl|(simp;done)|(simp [*];done)),H',⟨by have:=HK1.out;omega⟩,by repeat (first|exact Drawn0.refl _|apply Drawn0.step)⟩
      ·
       rw [if_neg c5] at H
       exact absurd H (by simp)
     ·
      rw [if_neg c4] at H
      have c4b0:decide (x3_1 < (l0.length:Int))=false:=decide_eq_false c4
      clear c4
      obtain rfl:=Option.some.inj H
      go_wp2
      go_ret
      exact ⟨by first|rfl|(simp;done)|(simp [*];done),by repeat (first|exact Drawn0.refl _|apply Drawn0.step)⟩
end Go.Proofs.Ytelcaepenfjloaa.Print
/-! #### Pr95 -/
namespace Go.Proofs.Ytelcaepenfjloaa.Print
open Go.RowKit Go.Proofs.YtelcaepenfjloaaW.PrintWords Go.Proofs.YtelcaepenfjloaaW.PrintLast Go.Proofs.YtelcaepenfjloaaW.PrintMore
attribute [local go_sem] max2_int min2_int max_two min_two max_three min_three max_four min_four
set_option linter.unusedVariables false
set_option linter.unusedSimpArgs false
/-! ### mosaicref03_Top: function 95 -/
def mosaicref03_Top.f:Nat→List ByteArray→Option (ByteArray)
 | 0,_=>none
 | k+1,l0=>if (l0.length:Int)=1 then (if 0 < (l0.length:Int) then ((mosaicref03_LeafText.f (rdOf ByteArray.empty l0 0)).bind fun t306=>((mosaicref01_Sum.f k t306).bind fun t307=>(some t307))) else (none)) else ((mosaicref03_half.f k (l0.length:Int)).bind fun t308=>(if 0≤t308 then (if t308≤(l0.length:Int) then ((mosaicref03_Top.f k (l0.take (t308:Int).toNat)).bind fun t310=>((mosaicref03_Top.f k (l0.drop (t308:Int).toNat)).bind fun t312=>((mosaicref03_KnotText.f t310 t312).bind fun t313=>((mosaicref01_Sum.f k t313).bind fun t314=>(some t314))))) else (none)) else (none)))
theorem mosaicref03_Top.mono_l:∀ k,(∀ y0,LeO (mosaicref03_Top.f k y0) (mosaicref03_Top.f (k+1) y0))
 | 0=>fun _ r h=>by simp [mosaicref03_Top.f] at h
 | k+1=>by
  have ih0:=mosaicref03_Top.mono_l k
  ·
   intro y0
   unfold mosaicref03_Top.f
   repeat' first
   | (with_reducible exact ih0 _)
   | (with_reducible exact mosaicref01_Sum.mono _ _)
   | (with_reducible exact mosaicref03_half.mono _ _)
   | (with_reducible exact LeO.refl _)
   | (with_reducible exact LeO.none _)
   | (with_reducible refine LeO.ite ?_ ?_)
   | (with_reducible refine LeO.bind ?_ (fun _=>?_))
   | exact ih0 _
   | exact mosaicref01_Sum.mono _ _
   | exact mosaicref03_half.mono _ _
   | exact LeO.none _
   | refine LeO.ite ?_ ?_
   | refine LeO.bind ?_ (fun _=>?_)
theorem mosaicref03_Top.mono:∀ a0 k,LeO (mosaicref03_Top.f k a0) (mosaicref03_Top.f (k+1) a0):=by
 intro a0 k
 have ih0:=mosaicref03_Top.mono_l k
 exact ih0 a0
def mosaicref03_Top.T4:Bool×List (List Nat×List Nat):=(true,[([],[]),([],[]),([0,1],[0,1]),([2],[2]),([],[]),([],[]),([4,5],[4,5]),([6,3],[6]),([3,7,7],[3,7]),([8,8],[8]),([9,9,0,1,2,3,4,5,6,7,8,9],[9])])
def mosaicref03_Top.B4:List Nat:=[0,0,3,7,0,0,48,127,255,511,1023]
theorem mosaicref03_Top.tab4:rtab .any (opsOf Try.f95 4)=mosaicref03_Top.T4:=by kernel_rfl
theorem mosaicref03_Top.bits4:waitsOk mosaicref03_Top.T4.2 mosaicref03_Top.B4=true:=by kernel_rfl
set_option maxHeartbeats 8000000 in
set_option maxRecDepth 100000 in
theorem mosaicref03_Top.calls (k:Nat):∀ (A0:Option Addr) (c0:Nat) (l0:List ByteArray) (r:ByteArray) (w:World) (hr0:Kd.C Kd.string w A0 l0.length l0) (hc0:l0.length≤c0) (h:mosaicref03_Top.f k l0=some r),
  Calls Try.prog 95 #[.slice A0 l0.length c0] w fun e w'=>e=.returned (.string r)∧Below w.heap.size w w':=by
 induction k using Nat.strongRecOn with
 | _ k ih =>
 intro A0 c0 l0 r w hr0 hc0 h
 cases k with
 | zero=>exact absurd h (by simp [mosaicref03_Top.f])
 | succ k =>
 simp only [mosaicref03_Top.f] at h
 have HR0:=Aside0.mk hr0
 have HC0:=Aside0.mk hc0
 clear hr0 hc0
 have HB:=Aside0.mk (Below.refl w.heap.size w)
 have H:(if (l0.length:Int)=1 then (if 0 < (l0.length:Int) then ((mosaicref03_LeafText.f (rdOf ByteArray.empty l0 0)).bind fun t306=>((mosaicref01_Sum.f k t306).bind fun t307=>(some t307))) else (none)) else ((mosaicref03_half.f k (l0.length:Int)).bind fun t308=>(if 0≤t308 then (if t308≤(l0.length:Int) then ((mosaicref03_Top.f k (l0.take (t308:Int).toNat)).bind fun t310=>((mosaicref03_Top.f k (l0.drop (t308:Int).toNat)).bind fun t312=>((mosaicref03_KnotText.f t310 t312).bind fun t313=>((mosaicref01_Sum.f k t313).bind fun t314=>(some t314))))) else (none)) else (none))))=some r:=h
 clear h
 by_cases c2:(l0.length:Int)=1
 ·
  rw [if_pos c2] at H
  have c2b0:((l0.length:Int) == 1)=true:=beq_iff_eq.mpr c2
  have c2b1:((l0.length:Int) != 1)=false:=bne_eq_false_iff_eq.mpr c2
  clear c2
  by_cases c3:0 < (l0.length:Int)
  ·
   rw [if_pos c3] at H
   have c3b0:decide (0 < (l0.length:Int))=true:=decide_eq_true c3
   have c3b1:decide (0 < l0.length)=true:=decide_eq_true (by omega)
   clear c3
   replace H:=Option.bind_eq_some_iff.mp H
   obtain ⟨t306,A40,H⟩:=H
   replace H:((mosaicref01_Sum.f k t306).bind fun t307=>(some t307))=some r:=H
   have A4:=Aside0.mk A40
   clear A40
   replace H:=Option.bind_eq_some_iff.mp H
   obtain ⟨t307,A50,H⟩:=H
   replace H:(some t307)=some r:=H
   have A5:=Aside0.mk A50
   clear A50
   obtain rfl:=Option.some.inj H
   have p305:0≤(0:Int):=(by omega)
   have q305:0 < (l0.length:Int):=of_decide_eq_true (by first|(with_reducible assumption)|assumption)
   obtain ⟨ad305,e305,hx305_0⟩:=Kd.at_string HR0.out 0 p305 q305
   cases e305
   have qi305:(0 < l0.length)=True:=eq_true (by omega)
   (try rw [show ((0:Int)).toNat=0 from rfl] at hx305_0)
   (try rw [Addr.add_zero'] at hx305_0)
   replace p305:=eq_true p305
   replace q305:=eq_true q305
   go_enter Try.func95,Try.ntmps95
   go_wp2_with (first|((with_reducible refine gate_callee (f:=49) rfl ?_);refine goesL_ (some 10) rfl rfl Try.func49 (by kernel_rfl) rfl #[.string (rdOf ByteArray.empty l0 0)] rfl (by (try simp only [List.map_toArray,List.map_cons,List.map_nil]);first|done|rfl|(simp only [List.length_drop,List.length_take];rfl)) ?_;(with_reducible refine (mosaicref03_LeafText.calls (rdOf ByteArray.empty l0 0) t306 _ A4.out).mono ?_);rintro e w' ⟨rfl,⟨nd,rfl⟩⟩;refine ⟨_,rfl,?_⟩)|((with_reducible refine gate_callee (f:=27) rfl ?_);refine goesL_ (some 11) rfl rfl Try.func27 (by kernel_rfl) rfl #[.string t306] rfl (by (try simp only [List.map_toArray,List.map_cons,List.map_nil]);first|done|rfl|(simp only [List.length_drop,List.length_take];rfl)) ?_;(with_reducible refine (mosaicref01_Sum.calls k t306 t307 _ A5.out).mono ?_);rintro e w6 ⟨rfl,hb⟩;refine ⟨_,rfl,?_⟩;have n0_:=Aside0.mk (below_step (by repeat (first|(with_reducible first|exact HB.out|apply below_alloc|apply pw_below_drewN|apply below_drew1)|exact HB.out)) hb);clear HB;have HB:=n0_;clear n0_;(try clear hb);(try clear hb2);(try clear hk);(try clear hi)))
   go_ret
   exact ⟨by first|rfl|(simp [errW_none,errW_some] <;> rfl)|(simp [*,errW_none,errW_some] <;> rfl),by repeat (first|(with_reducible first|exact HB.out|apply below_alloc|apply pw_below_drewN|apply below_drew1)|exact HB.out)⟩
  ·
   rw [if_neg c3] at H
   exact absurd H (by simp)
 ·
  rw [if_neg c2] at H
  have c2b0:((l0.length:Int) == 1)=false:=beq_eq_false_iff_ne.mpr c2
  have c2b1:((l0.length:Int) != 1)=true:=bne_iff_ne.mpr c2
  replace H:=Option.bind_eq_some_iff.mp H
  obtain ⟨t308,A70,H⟩:=H
  replace H:(if 0≤t308 then (if t308≤(l0.length:Int) then ((mosaicref03_Top.f k (l0.take (t308:Int).toNat)).bind fun t310=>((mosaicref03_Top.f k (l0.drop (t308:Int).toNat)).bind fun t312=>((mosaicref03_KnotText.f t310 t312).bind fun t313=>((mosaicref01_Sum.f k t313).bind fun t314=>(some t314))))) else (none)) else (none))=some r:=H
  have A7:=Aside0.mk A70
  clear A70
  by_cases c8:0≤t308
  ·
   rw [if_pos c8] at H
   have c8b0:=eq_true c8
   have c8b1:decide (0≤t308)=true:=decide_eq_true c8
   clear c8
   by_cases c9:t308≤(l0.length:Int)
   ·
    rw [if_pos c9] at H
    have c9b0:=eq_true c9
    have c9b1:decide (t308≤(l0.length:Int))=true:=decide_eq_true c9
    clear c9
    replace H:=Option.bind_eq_some_iff.mp H
    obtain ⟨t310,A100,H⟩:=H
    replace H:((mosaicref03_Top.f k (l0.drop (t308:Int).toNat)).bind fun t312=>((mosaicref03_KnotText.f t310 t312).bind fun t313=>((mosaicref01_Sum.f k t313).bind fun t314=>(some t314))))=some r:=H
    have A10:=Aside0.mk A100
    clear A100
    have c11b0:=eq_true (of_decide_eq_true (by first|(with_reducible assumption)|assumption):0≤t308)
    have c12b0:=eq_true (of_decide_eq_true (by first|(with_reducible assumption)|assumption):t308≤(l0.length:Int))
    replace H:=Option.bind_eq_some_iff.mp H
    obtain ⟨t312,A130,H⟩:=H
    replace H:((mosaicref03_KnotText.f t310 t312).bind fun t313=>((mosaicref01_Sum.f k t313).bind fun t314=>(some t314)))=some r:=H
    have A13:=Aside0.mk A130
    clear A130
    replace H:=Option.bind_eq_some_iff.mp H
    obtain ⟨t313,A140,H⟩:=H
    replace H:((mosaicref01_Sum.f k t313).bind fun t314=>(some t314))=some r:=H
    have A14:=Aside0.mk A140
    clear A140
    replace H:=Option.bind_eq_some_iff.mp H
    obtain ⟨t314,A150,H⟩:=H
    replace H:(some t314)=some r:=H
    have A15:=Aside0.mk A150
    clear A150
    obtain rfl:=Option.some.inj H
    go_enter Try.func95,Try.ntmps95
    try go_wp2_with (first|((with_reducible refine gate_callee (f:=99) rfl ?_);refine goesL_ (some 14) rfl rfl Try.func99 (by kernel_rfl) rfl #[.int .i64 (l0.length:Int)] rfl (by (try simp only [List.map_toArray,List.map_cons,List.map_nil]);first|done|rfl|(simp only [List.length_drop,List.length_take];rfl)) ?_;(with_reducible refine (mosaicref03_half.calls k (l0.length:Int) t308 _ A7.out).mono ?_);rintro e w' ⟨rfl,⟨nd,rfl⟩⟩;refine ⟨_,rfl,?_⟩))
    have n0_:=Aside0.mk (below_drew1 (pw_below_drewN HB.out nd))
    clear HB
    have HB:=n0_
    clear n0_
    obtain ⟨i017,hi017,_,hsz17,_⟩:=info_parts info9
    obtain ⟨hcut17,hA17,hC17⟩:=print_take_of (P:=Try.prog) Value.string (⟨#[]⟩:ByteArray) 39 9 .i64 Try.underlying39 hi017 hsz17 A0 c0 l0 t308 (of_decide_eq_true (by first|(with_reducible assumption)|assumption)) (of_decide_eq_true (by first|(with_reducible assumption)|assumption)) HC0.out
    have HR309:=Aside0.mk (Kd.C_of_reads (h1:=fun _=>rfl) (hA17 _ (Kd.reads_of_C HR0.out)))
    have HC309:=Aside0.mk hC17
    clear hA17 hC17 hi017 hsz17
    obtain ⟨i018,hi018,_,hsz18,_⟩:=info_parts info9
    obtain ⟨A18,hcut18,hA18,hC18⟩:=print_drop_of (P:=Try.prog) Value.string (⟨#[]⟩:ByteArray) 39 9 .i64 Try.underlying39 hi018 hsz18 A0 c0 l0 t308 (of_decide_eq_true (by first|(with_reducible assumption)|assumption)) (of_decide_eq_true (by first|(with_reducible assumption)|assumption)) HC0.out
    have HR311:=Aside0.mk (Kd.C_of_reads (h1:=fun _=>rfl) (hA18 _ (Kd.reads_of_C HR0.out)))
    have HC311:=Aside0.mk hC18
    clear hA18 hC18 hi018 hsz18
    refine start_ (n:=11) (S:=fun w'=>True) (ds:=[]) #[false,false,false,false,false,false,false,false,false,false,false] (by kernel_rfl) rfl rfl trivial (fun hHeld=>?_);refine with_tabW mosaicref03_Top.tab4 mosaicref03_Top.bits4 (fun HT_ HW_=>?_)
    generalize (w.drewN nd).drew=w16 at HB HR309 HR311 hHeld ⊢
    refine pure_ (i:=0) (N:=some 15) (v:=?_) (a':=?_) #[true,false,false,false,false,false,false,false,false,false,false] rfl rfl (any_of HT_.out (by kernel_rfl)) (fun _ _ _ h=>h) (Or.inl ⟨by rfl,?_⟩) ?_ ?_
    rotate_left
    ·
     intro w'
     go_simp
     with_reducible rfl
    rotate_left
    ·
     simp only [Act.put,List.setIfInBounds_toArray,List.set_cons_zero,List.set_cons_succ,i64_w,i32_w]
     rfl
    refine pure_ (i:=1) (N:=some 16) (v:=?_) (a':=?_) #[true,true,false,false,false,false,false,false,false,false,false] rfl rfl (any_of HT_.out (by kernel_rfl)) (fun _ _ _ h=>h) (Or.inl ⟨by rfl,?_⟩) ?_ ?_
    rotate_left
    ·
     intro w'
     go_simp
     with_reducible rfl
    rotate_left
    ·
     simp only [Act.put,List.setIfInBounds_toArray,List.set_cons_zero,List.set_cons_succ,i64_w,i32_w]
     rfl
    refine pure_ (i:=2) (N:=some 17) (v:=?_) (a':=?_) #[true,true,true,false,false,false,false,false,false,false,false] rfl rfl (any_of HT_.out (by kernel_rfl)) (fun _ _ _ h=>h) (Or.inl ⟨by rfl,?_⟩) ?_ ?_
    rotate_left
    ·
     intro w'
     go_simp
     with_reducible rfl
    rotate_left
    ·
     simp only [Act.put,List.setIfInBounds_toArray,List.set_cons_zero,List.set_cons_succ,i64_w,i32_w]
     rfl
    refine pure_ (i:=4) (N:=some 19) (v:=?_) (a':=?_) #[true,true,true,false,true,false,false,false,false,false,false] rfl rfl (any_of HT_.out (by kernel_rfl)) (fun _ _ _ h=>h) (Or.inl ⟨by rfl,?_⟩) ?_ ?_
    rotate_left
    ·
     intro w'
     go_simp
     with_reducible rfl
    rotate_left
    ·
     simp only [Act.put,List.setIfInBounds_toArray,List.set_cons_zero,List.set_cons_succ,i64_w,i32_w]
     rfl
    refine pure_ (i:=5) (N:=some 20) (v:=?_) (a':=?_) #[true,true,true,false,true,true,false,false,false,false,false] rfl rfl (any_of HT_.out (by kernel_rfl)) (fun _ _ _ h=>h) (Or.inl ⟨by rfl,?_⟩) ?_ ?_
    rotate_left
    ·
     intro w'
     go_simp
     with_reducible rfl
    rotate_left
    ·
     simp only [Act.put,List.setIfInBounds_toArray,List.set_cons_zero,List.set_cons_succ,i64_w,i32_w]
     rfl
    refine pure_ (i:=6) (N:=some 21) (v:=?_) (a':=?_) #[true,true,true,false,true,true,true,false,false,false,false] rfl rfl (any_of HT_.out (by kernel_rfl)) (fun _ _ _ h=>h) (Or.inl ⟨by rfl,?_⟩) ?_ ?_
    rotate_left
    ·
     intro w'
     go_simp
     with_reducible rfl
    rotate_left
    ·
     simp only [Act.put,List.setIfInBounds_toArray,List.set_cons_zero,List.set_cons_succ,i64_w,i32_w]
     rfl
    refine one_ (i:=3) (N:=some 18) #[true,true,true,true,true,true,true,false,false,false,false] rfl rfl (one_of HT_.out (by kernel_rfl)) (by decide) (fun K hK=>?_)
    refine goes_ Try.func95 (by kernel_rfl) rfl #[.slice A0 (l0.take (t308:Int).toNat).length c0] (by rfl) rfl rfl (by (try simp only [List.map_toArray,List.map_cons,List.map_nil]);first|done|(rw [show (l0.take (t308:Int).toNat).length=t308.toNat from (by rw [List.length_take];have h_:(t308:Int)≤(l0.length:Int):=of_decide_eq_true (by first|(with_reducible assumption)|assumption);omega)] <;> rfl)|rfl|(simp only [List.length_drop,List.length_take];rfl)) ?_
    with_reducible refine (ih k (by omega) _ _ (l0.take (t308:Int).toNat) t310 _ ?side1 ?side2 A10.out).mono ?_
    (case side1=>repeat (first|exact (Kd.C_below HR309.out HB.out)|(with_reducible refine Kd.C_alloc ?_ _)|(with_reducible refine Kd.C_drewN ?_ _)|(with_reducible refine Kd.C_drew ?_)))
    (case side2=>exact HC309.out)
    rintro e w19 ⟨rfl,hb⟩
    refine ⟨_,rfl,?_⟩
    have n0_:=Aside0.mk (below_step (by repeat (first|(with_reducible first|exact HB.out|apply below_alloc|apply pw_below_drewN|apply below_drew1)|exact HB.out)) hb)
    clear HB
    have HB:=n0_
    clear n0_
    (try clear hb)
    (try clear hb2)
    (try clear hk)
    (try clear hi)
    refine hK.out _ _ trivial (fun hHeld=>?_)
    clear hK K
    refine norm_ (a':=?_) ?_ ?_
    rotate_left
    ·
     show Act.put _ (some 18) _=_
     simp only [Act.put,List.setIfInBounds_toArray,List.set_cons_zero,List.set_cons_succ,i64_w,i32_w]
     rfl
    refine one_ (i:=7) (N:=some 22) #[true,true,true,true,true,true,true,true,false,false,false] rfl rfl (one_of HT_.out (by kernel_rfl)) (by decide) (fun K hK=>?_)
    refine goes_ Try.func95 (by kernel_rfl) rfl #[.slice A18 (l0.drop (t308:Int).toNat).length (c0 - t308.toNat)] (by rfl) rfl rfl (by (try simp only [List.map_toArray,List.map_cons,List.map_nil]);first|done|(rw [show (l0.drop (t308:Int).toNat).length=(l0.length - t308.toNat) from List.length_drop] <;> rfl)|rfl|(simp only [List.length_drop,List.length_take];rfl)) ?_
    with_reducible refine (ih k (by omega) _ _ (l0.drop (t308:Int).toNat) t312 _ ?side1 ?side2 A13.out).mono ?_
    (case side1=>repeat (first|exact (Kd.C_below HR311.out HB.out)|(with_reducible refine Kd.C_alloc ?_ _)|(with_reducible refine Kd.C_drewN ?_ _)|(with_reducible refine Kd.C_drew ?_)))
    (case side2=>exact HC311.out)
    rintro e w20 ⟨rfl,hb⟩
    refine ⟨_,rfl,?_⟩
    have n0_:=Aside0.mk (below_step (by repeat (first|(with_reducible first|exact HB.out|apply below_alloc|apply pw_below_drewN|apply below_drew1)|exact HB.out)) hb)
    clear HB
    have HB:=n0_
    clear n0_
    (try clear hb)
    (try clear hb2)
    (try clear hk)
    (try clear hi)
    refine hK.out _ _ trivial (fun hHeld=>?_)
    clear hK K
    refine norm_ (a':=?_) ?_ ?_
    rotate_left
    ·
     show Act.put _ (some 22) _=_
     simp only [Act.put,List.setIfInBounds_toArray,List.set_cons_zero,List.set_cons_succ,i64_w,i32_w]
     rfl
    refine one_ (i:=8) (N:=some 23) #[true,true,true,true,true,true,true,true,true,false,false] rfl rfl (one_of HT_.out (by kernel_rfl)) (by decide) (fun K hK=>?_)
    refine goes_ Try.func51 (by kernel_rfl) rfl #[.string t310,.string t312] (by rfl) rfl rfl (by (try simp only [List.map_toArray,List.map_cons,List.map_nil]);first|done|rfl|(simp only [List.length_drop,List.length_take];rfl)) ?_
    with_reducible refine (mosaicref03_KnotText.calls t310 t312 t313 _ A14.out).mono ?_
    rintro e w' ⟨rfl,⟨nd,rfl⟩⟩
    refine ⟨_,rfl,?_⟩
    refine hK.out _ _ trivial (fun hHeld=>?_)
    clear hK K
    refine norm_ (a':=?_) ?_ ?_
    rotate_left
    ·
     show Act.put _ (some 23) _=_
     simp only [Act.put,List.setIfInBounds_toArray,List.set_cons_zero,List.set_cons_succ,i64_w,i32_w]
     rfl
    refine one_ (i:=9) (N:=some 24) #[true,true,true,true,true,true,true,true,true,true,false] rfl rfl (one_of HT_.out (by kernel_rfl)) (by decide) (fun K hK=>?_)
    refine goes_ Try.func27 (by kernel_rfl) rfl #[.string t313] (by rfl) rfl rfl (by (try simp only [List.map_toArray,List.map_cons,List.map_nil]);first|done|rfl|(simp only [List.length_drop,List.length_take];rfl)) ?_
    with_reducible refine (mosaicref01_Sum.calls k t313 t314 _ A15.out).mono ?_
    rintro e w21 ⟨rfl,hb⟩
    refine ⟨_,rfl,?_⟩
    have n0_:=Aside0.mk (below_step (by repeat (first|(with_reducible first|exact HB.out|apply below_alloc|apply pw_below_drewN|apply below_drew1)|exact HB.out)) hb)
    clear HB
    have HB:=n0_
    clear n0_
    (try clear hb)
    (try clear hb2)
    (try clear hk)
    (try clear hi)
    refine hK.out _ _ trivial (fun hHeld=>?_)
    clear hK K
    refine norm_ (a':=?_) ?_ ?_
    rotate_left
    ·
     show Act.put _ (some 24) _=_
     simp only [Act.put,List.setIfInBounds_toArray,List.set_cons_zero,List.set_cons_succ,i64_w,i32_w]
     rfl
    refine pure_ (i:=10) (N:=some 2) (v:=?_) (a':=?_) #[true,true,true,true,true,true,true,true,true,true,true] rfl rfl (any_of HT_.out (by kernel_rfl)) (fun _ _ _ h=>h) (Or.inl ⟨by rfl,?_⟩) ?_ ?_
    rotate_left
    ·
     intro w'
     go_simp
     with_reducible rfl
    rotate_left
    ·
     simp only [Act.put,List.setIfInBounds_toArray,List.set_cons_zero,List.set_cons_succ,i64_w,i32_w]
     rfl
    refine done_ (done_of HT_.out (by kernel_rfl)) ?_
    try go_wp2
    go_ret
    exact ⟨by first|rfl|(simp [errW_none,errW_some] <;> rfl)|(simp [*,errW_none,errW_some] <;> rfl),by repeat (first|(with_reducible first|exact HB.out|apply below_alloc|apply pw_below_drewN|apply below_drew1)|exact HB.out)⟩
   ·
    rw [if_neg c9] at H
    exact absurd H (by simp)
  ·
   rw [if_neg c8] at H
   exact absurd H (by simp)
end Go.Proofs.Ytelcaepenfjloaa.Print
/-! #### Pr47 -/
namespace Go.Proofs.Ytelcaepenfjloaa.Print
open Go.RowKit Go.Proofs.YtelcaepenfjloaaW.PrintWords Go.Proofs.YtelcaepenfjloaaW.PrintLast Go.Proofs.YtelcaepenfjloaaW.PrintMore
attribute [local go_sem] max2_int min2_int max_two min_two max_three min_three max_four min_four
set_option linter.unusedVariables false
set_option linter.unusedSimpArgs false
/-! ### mosaicref03_Root: function 47 -/
def mosaicref03_Root.f (k:Nat) (l0:List ByteArray):Option (ByteArray×Int):=(mosaicref03_May.f k l0).bind fun t315=>(if t315=0 then ((mosaicref03_Top.f k l0).bind fun t316=>(some (t316,0))) else (some ((⟨#[]⟩:ByteArray),t315)))
theorem mosaicref03_Root.mono:∀ a0 k,LeO (mosaicref03_Root.f k a0) (mosaicref03_Root.f (k+1) a0):=by
 intro a0 k
 unfold mosaicref03_Root.f
 repeat' first
   | (with_reducible exact mosaicref03_May.mono _ _)
   | (with_reducible exact mosaicref03_Top.mono _ _)
   | (with_reducible exact LeO.refl _)
   | (with_reducible exact LeO.none _)
   | (with_reducible refine LeO.ite ?_ ?_)
   | (with_reducible refine LeO.bind ?_ (fun _=>?_))
   | exact mosaicref03_May.mono _ _
   | exact mosaicref03_Top.mono _ _
   | exact LeO.none _
   | refine LeO.ite ?_ ?_
   | refine LeO.bind ?_ (fun _=>?_)
set_option maxHeartbeats 8000000 in
set_option maxRecDepth 100000 in
theorem mosaicref03_Root.calls (k:Nat) (A0:Option Addr) (c0:Nat) (l0:List ByteArray) (r1:ByteArray) (r2:Int) (w:World) (hr0:Kd.C Kd.string w A0 l0.length l0) (hc0:l0.length≤c0) (h:mosaicref03_Root.f k l0=some (r1,r2)) :
  Calls Try.prog 47 #[.slice A0 l0.length c0] w fun e w'=>e=.returned (.tuple #[.string r1,.int .i64 r2])∧Below w.heap.size w w':=by
 have HR0:=Aside0.mk hr0
 have HC0:=Aside0.mk hc0
 clear hr0 hc0
 have HB:=Aside0.mk (Below.refl w.heap.size w)
 have H:((mosaicref03_May.f k l0).bind fun t315=>(if t315=0 then ((mosaicref03_Top.f k l0).bind fun t316=>(some (t316,0))) else (some ((⟨#[]⟩:ByteArray),t315))))=some (r1,r2):=h
 clear h
 replace H:=Option.bind_eq_some_iff.mp H
 obtain ⟨t315,A20,H⟩:=H
 replace H:(if t315=0 then ((mosaicref03_Top.f k l0).bind fun t316=>(some (t316,0))) else (some ((⟨#[]⟩:ByteArray),t315)))=some (r1,r2):=H
 have A2:=Aside0.mk A20
 clear A20
 by_cases c3:t315=0
 ·
  rw [if_pos c3] at H
  have c3b0:(t315 == 0)=true:=beq_iff_eq.mpr c3
  have c3b1:(t315 != 0)=false:=bne_eq_false_iff_eq.mpr c3
  clear c3
  replace H:=Option.bind_eq_some_iff.mp H
  obtain ⟨t316,A40,H⟩:=H
  replace H:(some (t316,0))=some (r1,r2):=H
  have A4:=Aside0.mk A40
  clear A40
  simp only [Option.some.injEq,Prod.mk.injEq] at H
  obtain ⟨rfl,rfl⟩:=H
  go_enter Try.func47,Try.ntmps47
  go_wp2_with (first|((with_reducible refine gate_callee (f:=94) rfl ?_);refine goesL_ (some 6) rfl rfl Try.func94 (by kernel_rfl) rfl #[.slice A0 l0.length c0] rfl (by (try simp only [List.map_toArray,List.map_cons,List.map_nil]);first|done|rfl|(simp only [List.length_drop,List.length_take];rfl)) ?_;(with_reducible refine (mosaicref03_May.calls k _ _ l0 t315 _ ?side1 ?side2 A2.out).mono ?_);(case side1=>repeat (first|exact HR0.out|(with_reducible refine Kd.C_alloc ?_ _)|(with_reducible refine Kd.C_drewN ?_ _)|(with_reducible refine Kd.C_drew ?_)));(case side2=>exact HC0.out);rintro e w' ⟨rfl,⟨nd,rfl⟩⟩;refine ⟨_,rfl,?_⟩)|((with_reducible refine gate_callee (f:=95) rfl ?_);refine goesL_ (some 11) rfl rfl Try.func95 (by kernel_rfl) rfl #[.slice A0 l0.length c0] rfl (by (try simp only [List.map_toArray,List.map_cons,List.map_nil]);first|done|rfl|(simp only [List.length_drop,List.length_take];rfl)) ?_;(with_reducible refine (mosaicref03_Top.calls k _ _ l0 t316 _ ?side1 ?side2 A4.out).mono ?_);(case side1=>repeat (first|exact HR0.out|(with_reducible refine Kd.C_alloc ?_ _)|(with_reducible refine Kd.C_drewN ?_ _)|(with_reducible refine Kd.C_drew ?_)));(case side2=>exact HC0.out);rintro e w5 ⟨rfl,hb⟩;refine ⟨_,rfl,?_⟩;have n0_:=Aside0.mk (below_step (by repeat (first|(with_reducible first|exact HB.out|apply below_alloc|apply pw_below_drewN|apply below_drew1)|exact HB.out)) hb);clear HB;have HB:=n0_;clear n0_;(try clear hb);(try clear hb2);(try clear hk);(try clear hi)))
  go_ret2
  exact ⟨by first|rfl|(simp [errW_none,errW_some] <;> rfl)|(simp [*,errW_none,errW_some] <;> rfl),by repeat (first|(with_reducible first|exact HB.out|apply below_alloc|apply pw_below_drewN|apply below_drew1)|exact HB.out)⟩
 ·
  rw [if_neg c3] at H
  have c3b0:(t315 == 0)=false:=beq_eq_false_iff_ne.mpr c3
  have c3b1:(t315 != 0)=true:=bne_iff_ne.mpr c3
  simp only [Option.some.injEq,Prod.mk.injEq] at H
  obtain ⟨rfl,rfl⟩:=H
  go_enter Try.func47,Try.ntmps47
  go_wp2_with (first|((with_reducible refine gate_callee (f:=94) rfl ?_);refine goesL_ (some 6) rfl rfl Try.func94 (by kernel_rfl) rfl #[.slice A0 l0.length c0] rfl (by (try simp only [List.map_toArray,List.map_cons,List.map_nil]);first|done|rfl|(simp only [List.length_drop,List.length_take];rfl)) ?_;(with_reducible refine (mosaicref03_May.calls k _ _ l0 t315 _ ?side1 ?side2 A2.out).mono ?_);(case side1=>repeat (first|exact HR0.out|(with_reducible refine Kd.C_alloc ?_ _)|(with_reducible refine Kd.C_drewN ?_ _)|(with_reducible refine Kd.C_drew ?_)));(case side2=>exact HC0.out);rintro e w' ⟨rfl,⟨nd,rfl⟩⟩;refine ⟨_,rfl,?_⟩))
  go_ret2
  exact ⟨by first|rfl|(simp [errW_none,errW_some] <;> rfl)|(simp [*,errW_none,errW_some] <;> rfl),by repeat (first|(with_reducible first|exact HB.out|apply below_alloc|apply pw_below_drewN|apply below_drew1)|exact HB.out)⟩
end Go.Proofs.Ytelcaepenfjloaa.Print
/-! #### Pr98 -/
namespace Go.Proofs.Ytelcaepenfjloaa.Print
open Go.RowKit Go.Proofs.YtelcaepenfjloaaW.PrintWords Go.Proofs.YtelcaepenfjloaaW.PrintLast Go.Proofs.YtelcaepenfjloaaW.PrintMore
attribute [local go_sem] max2_int min2_int max_two min_two max_three min_three max_four min_four
set_option linter.unusedVariables false
set_option linter.unusedSimpArgs false
/-! ### mosaicref03_way: function 98 -/
def mosaicref03_way.f:Nat→List ByteArray→Int→Option (List ByteArray)
 | 0,_,_=>none
 | k+1,l0,a1=>if (l0.length:Int)=1 then (some ([]:List ByteArray)) else ((mosaicref03_half.f k (l0.length:Int)).bind fun t336=>(if a1 < t336 then (if 0≤t336 then (if t336≤(l0.length:Int) then ((mosaicref03_way.f k (l0.take (t336:Int).toNat) a1).bind fun t338=>((mosaicref03_Top.f k (l0.drop (t336:Int).toNat)).bind fun t342=>(if t338.length < 8796093022208 then (some (t338 ++ [t342])) else (none)))) else (none)) else (none)) else (if 0≤t336 then (if t336≤(l0.length:Int) then ((mosaicref03_way.f k (l0.drop (t336:Int).toNat) (wrap64 (a1 - t336))).bind fun t347=>((mosaicref03_Top.f k (l0.take (t336:Int).toNat)).bind fun t351=>(if t347.length < 8796093022208 then (some (t347 ++ [t351])) else (none)))) else (none)) else (none))))
theorem mosaicref03_way.mono_l:∀ k,(∀ y0 y1,LeO (mosaicref03_way.f k y0 y1) (mosaicref03_way.f (k+1) y0 y1))
 | 0=>fun _ _ r h=>by simp [mosaicref03_way.f] at h
 | k+1=>by
  have ih0:=mosaicref03_way.mono_l k
  ·
   intro y0 y1
   unfold mosaicref03_way.f
   repeat' first
   | (with_reducible exact ih0 _ _)
   | (with_reducible exact mosaicref03_Top.mono _ _)
   | (with_reducible exact mosaicref03_half.mono _ _)
   | (with_reducible exact LeO.refl _)
   | (with_reducible exact LeO.none _)
   | (with_reducible refine LeO.ite ?_ ?_)
   | (with_reducible refine LeO.bind ?_ (fun _=>?_))
   | exact ih0 _ _
   | exact mosaicref03_Top.mono _ _
   | exact mosaicref03_half.mono _ _
   | exact LeO.none _
   | refine LeO.ite ?_ ?_
   | refine LeO.bind ?_ (fun _=>?_)
theorem mosaicref03_way.mono:∀ a0 a1 k,LeO (mosaicref03_way.f k a0 a1) (mosaicref03_way.f (k+1) a0 a1):=by
 intro a0 a1 k
 have ih0:=mosaicref03_way.mono_l k
 exact ih0 a0 a1
set_option maxHeartbeats 8000000 in
set_option maxRecDepth 100000 in
theorem mosaicref03_way.calls (k:Nat):∀ (A0:Option Addr) (c0:Nat) (l0:List ByteArray) (a1:Int) (r:List ByteArray) (w:World) (hr0:Kd.C Kd.string w A0 l0.length l0) (hc0:l0.length≤c0) (h:mosaicref03_way.f k l0 a1=some r),
  Calls Try.prog 98 #[.slice A0 l0.length c0,.int .i64 a1] w fun e w'=>∃ v0_:Value,e=.returned (v0_)∧Kd.R Kd.string 9 w' w.heap.size (fun _=>True) v0_ r∧Below w.heap.size w w':=by
 induction k using Nat.strongRecOn with
 | _ k ih =>
 intro A0 c0 l0 a1 r w hr0 hc0 h
 cases k with
 | zero=>exact absurd h (by simp [mosaicref03_way.f])
 | succ k =>
 simp only [mosaicref03_way.f] at h
 have HR0:=Aside0.mk hr0
 have HC0:=Aside0.mk hc0
 clear hr0 hc0
 have HB:=Aside0.mk (Below.refl w.heap.size w)
 have H:(if (l0.length:Int)=1 then (some ([]:List ByteArray)) else ((mosaicref03_half.f k (l0.length:Int)).bind fun t336=>(if a1 < t336 then (if 0≤t336 then (if t336≤(l0.length:Int) then ((mosaicref03_way.f k (l0.take (t336:Int).toNat) a1).bind fun t338=>((mosaicref03_Top.f k (l0.drop (t336:Int).toNat)).bind fun t342=>(if t338.length < 8796093022208 then (some (t338 ++ [t342])) else (none)))) else (none)) else (none)) else (if 0≤t336 then (if t336≤(l0.length:Int) then ((mosaicref03_way.f k (l0.drop (t336:Int).toNat) (wrap64 (a1 - t336))).bind fun t347=>((mosaicref03_Top.f k (l0.take (t336:Int).toNat)).bind fun t351=>(if t347.length < 8796093022208 then (some (t347 ++ [t351])) else (none)))) else (none)) else (none)))))=some r:=h
 clear h
 by_cases c3:(l0.length:Int)=1
 ·
  rw [if_pos c3] at H
  have c3b0:((l0.length:Int) == 1)=true:=beq_iff_eq.mpr c3
  have c3b1:((l0.length:Int) != 1)=false:=bne_eq_false_iff_eq.mpr c3
  clear c3
  obtain rfl:=Option.some.inj H
  go_enter Try.func98,Try.ntmps98
  go_wp2
  go_ret
  exact ⟨_,by first|rfl|(simp [errW_none,errW_some] <;> rfl)|(simp [*,errW_none,errW_some] <;> rfl),by first|exact Kd.R_nil _ _ _ _ _|exact Kd.N_nil _ _ _ _ _|exact Kd.V_nil _ _ _ _ _|exact Kd.Q_nil _ _ _ _ _|exact Kd.S_nil _ _ _ _ _,by repeat (first|(with_reducible first|exact HB.out|apply below_alloc|apply pw_below_drewN|apply below_drew1)|exact HB.out)⟩
 ·
  rw [if_neg c3] at H
  have c3b0:((l0.length:Int) == 1)=false:=beq_eq_false_iff_ne.mpr c3
  have c3b1:((l0.length:Int) != 1)=true:=bne_iff_ne.mpr c3
  replace H:=Option.bind_eq_some_iff.mp H
  obtain ⟨t336,A40,H⟩:=H
  replace H:(if a1 < t336 then (if 0≤t336 then (if t336≤(l0.length:Int) then ((mosaicref03_way.f k (l0.take (t336:Int).toNat) a1).bind fun t338=>((mosaicref03_Top.f k (l0.drop (t336:Int).toNat)).bind fun t342=>(if t338.length < 8796093022208 then (some (t338 ++ [t342])) else (none)))) else (none)) else (none)) else (if 0≤t336 then (if t336≤(l0.length:Int) then ((mosaicref03_way.f k (l0.drop (t336:Int).toNat) (wrap64 (a1 - t336))).bind fun t347=>((mosaicref03_Top.f k (l0.take (t336:Int).toNat)).bind fun t351=>(if t347.length < 8796093022208 then (some (t347 ++ [t351])) else (none)))) else (none)) else (none)))=some r:=H
  have A4:=Aside0.mk A40
  clear A40
  by_cases c5:a1 < t336
  ·
   rw [if_pos c5] at H
   have c5b0:decide (a1 < t336)=true:=decide_eq_true c5
   clear c5
   by_cases c6:0≤t336
   ·
    rw [if_pos c6] at H
    have c6b0:=eq_true c6
    have c6b1:decide (0≤t336)=true:=decide_eq_true c6
    clear c6
    by_cases c7:t336≤(l0.length:Int)
    ·
     rw [if_pos c7] at H
     have c7b0:=eq_true c7
     have c7b1:decide (t336≤(l0.length:Int))=true:=decide_eq_true c7
     clear c7
     replace H:=Option.bind_eq_some_iff.mp H
     obtain ⟨t338,A80,H⟩:=H
     replace H:((mosaicref03_Top.f k (l0.drop (t336:Int).toNat)).bind fun t342=>(if t338.length < 8796093022208 then (some (t338 ++ [t342])) else (none)))=some r:=H
     have A8:=Aside0.mk A80
     clear A80
     have c9b0:=eq_true (of_decide_eq_true (by first|(with_reducible assumption)|assumption):0≤t336)
     have c10b0:=eq_true (of_decide_eq_true (by first|(with_reducible assumption)|assumption):t336≤(l0.length:Int))
     replace H:=Option.bind_eq_some_iff.mp H
     obtain ⟨t342,A110,H⟩:=H
     replace H:(if t338.length < 8796093022208 then (some (t338 ++ [t342])) else (none))=some r:=H
     have A11:=Aside0.mk A110
     clear A110
     by_cases c12:t338.length < 8796093022208
     ·
      rw [if_pos c12] at H
      have LMc12:=Aside0.mk c12
      clear c12
      obtain ⟨y343,hy343⟩:∃ y_:List ByteArray,y_=(t338 ++ [t342]):=⟨_,rfl⟩
      replace H:(some y343)=some r:=by first|(rw [hy343];with_reducible exact H)|(have H2_:=(Option.bind_some _ _).symm.trans H;rw [hy343];with_reducible exact H2_)|(have H2_:=(Option.bind_some _ _).symm.trans H;with_reducible exact H2_)|with_reducible exact H|(rw [hy343];exact H)|exact H
      have Ny343:=Aside0.mk hy343
      clear hy343
      obtain rfl:=Option.some.inj H
      go_enter Try.func98,Try.ntmps98
      go_wp2_with (first|((with_reducible refine gate_callee (f:=99) rfl ?_);refine goesL_ (some 12) rfl rfl Try.func99 (by kernel_rfl) rfl #[.int .i64 (l0.length:Int)] rfl (by (try simp only [List.map_toArray,List.map_cons,List.map_nil]);first|done|rfl|(simp only [List.length_drop,List.length_take];rfl)) ?_;(with_reducible refine (mosaicref03_half.calls k (l0.length:Int) t336 _ A4.out).mono ?_);rintro e w' ⟨rfl,⟨nd,rfl⟩⟩;refine ⟨_,rfl,?_⟩;obtain ⟨i013,hi013,_,hsz13,_⟩:=info_parts info9;obtain ⟨hcut13,hA13,hC13⟩:=print_take_of (P:=Try.prog) Value.string (⟨#[]⟩:ByteArray) 39 9 .i64 Try.underlying39 hi013 hsz13 A0 c0 l0 t336 (of_decide_eq_true (by first|(with_reducible assumption)|assumption)) (of_decide_eq_true (by first|(with_reducible assumption)|assumption)) HC0.out;have HR337:=Aside0.mk (Kd.C_of_reads (h1:=fun _=>rfl) (hA13 _ (Kd.reads_of_C HR0.out)));have HC337:=Aside0.mk hC13;clear hA13 hC13 hi013 hsz13)|((with_reducible refine gate_callee (f:=98) rfl ?_);refine goesL_ (some 20) rfl rfl Try.func98 (by kernel_rfl) rfl #[.slice A0 (l0.take (t336:Int).toNat).length c0,.int .i64 a1] rfl (by (try simp only [List.map_toArray,List.map_cons,List.map_nil]);first|done|(rw [show (l0.take (t336:Int).toNat).length=t336.toNat from (by rw [List.length_take];have h_:(t336:Int)≤(l0.length:Int):=of_decide_eq_true (by first|(with_reducible assumption)|assumption);omega)] <;> rfl)|rfl|(simp only [List.length_drop,List.length_take];rfl)) ?_;(with_reducible refine (ih k (by omega) _ _ (l0.take (t336:Int).toNat) a1 t338 _ ?side1 ?side2 A8.out).mono ?_);(case side1=>repeat (first|exact HR337.out|(with_reducible refine Kd.C_alloc ?_ _)|(with_reducible refine Kd.C_drewN ?_ _)|(with_reducible refine Kd.C_drew ?_)));(case side2=>exact HC337.out);rintro e w14 ⟨v339,rfl,ho0,hb⟩;refine ⟨_,rfl,?_⟩;have n0_:=Aside0.mk (Kd.R_lower ho0 (below_size (by repeat (first|(with_reducible first|exact HB.out|apply below_alloc|apply pw_below_drewN|apply below_drew1)|exact HB.out))));have n1_:=Aside0.mk (below_step (by repeat (first|(with_reducible first|exact HB.out|apply below_alloc|apply pw_below_drewN|apply below_drew1)|exact HB.out)) hb);clear HB;have HO340:=n0_;have HB:=n1_;clear n0_ n1_;(try clear hb);(try clear hb2);(try clear hk);(try clear hi);(try clear ho0);obtain ⟨i015,hi015,_,hsz15,_⟩:=info_parts info9;obtain ⟨A15,hcut15,hA15,hC15⟩:=print_drop_of (P:=Try.prog) Value.string (⟨#[]⟩:ByteArray) 39 9 .i64 Try.underlying39 hi015 hsz15 A0 c0 l0 t336 (of_decide_eq_true (by first|(with_reducible assumption)|assumption)) (of_decide_eq_true (by first|(with_reducible assumption)|assumption)) HC0.out;have HR341:=Aside0.mk (Kd.C_of_reads (h1:=fun _=>rfl) (hA15 _ (Kd.reads_of_C HR0.out)));have HC341:=Aside0.mk hC15;clear hA15 hC15 hi015 hsz15)|((with_reducible refine gate_callee (f:=95) rfl ?_);refine goesL_ (some 25) rfl rfl Try.func95 (by kernel_rfl) rfl #[.slice A15 (l0.drop (t336:Int).toNat).length (c0 - t336.toNat)] rfl (by (try simp only [List.map_toArray,List.map_cons,List.map_nil]);first|done|(rw [show (l0.drop (t336:Int).toNat).length=(l0.length - t336.toNat) from List.length_drop] <;> rfl)|rfl|(simp only [List.length_drop,List.length_take];rfl)) ?_;(with_reducible refine (mosaicref03_Top.calls k _ _ (l0.drop (t336:Int).toNat) t342 _ ?side1 ?side2 A11.out).mono ?_);(case side1=>repeat (first|exact (Kd.C_below HR341.out HB.out)|(with_reducible refine Kd.C_alloc ?_ _)|(with_reducible refine Kd.C_drewN ?_ _)|(with_reducible refine Kd.C_drew ?_)));(case side2=>exact HC341.out);rintro e w16 ⟨rfl,hb⟩;refine ⟨_,rfl,?_⟩;have n0_:=Aside0.mk (Kd.R_below (by (with_reducible repeat (first|apply Kd.R_alloc|apply Kd.R_drewN|apply Kd.R_drew));exact HO340.out) hb);have n1_:=Aside0.mk (below_step (by repeat (first|(with_reducible first|exact HB.out|apply below_alloc|apply pw_below_drewN|apply below_drew1)|exact HB.out)) hb);clear HO340;clear HB;have HO340:=n0_;have HB:=n1_;clear n0_ n1_;(try clear hb);(try clear hb2);(try clear hk);(try clear hi))|((with_reducible refine gate_builtin (b:=.append) (xs:=#[.tmp 21,.tmp 26]) rfl ?_);at_builtin;refine Kd.R_append Kd.string (w0:=w) w.heap.size rfl (.tmp 21) (.tmp 26) 39 9 (.string ⟨#[]⟩) 16 rfl Try.underlying39 info9 rfl (by decide) (by omega) v339 t338 t342 [.string t342] (fun _=>True) (fun _=>False) rfl rfl ?aP (fun _ hk=>hk.elim) ?aF ?aO ?aB ?aS ?aL ?_;(case aP=>exact rfl);(case aB=>exact (by repeat (first|(with_reducible first|exact HB.out|apply below_alloc|apply pw_below_drewN|apply below_drew1)|exact HB.out)));(case aF=>exact (fun _ _=>trivial));(case aO=>exact (by (with_reducible repeat (first|apply Kd.R_alloc|apply Kd.R_drewN|apply Kd.R_drew));exact HO340.out));(case aS=>exact (below_size (by repeat (first|(with_reducible first|exact HB.out|apply below_alloc|apply pw_below_drewN|apply below_drew1)|exact HB.out))));(case aL=>have:=LMc12.out;omega);intro v344 w17 ho hb hg hat;rw [← Ny343.out] at ho;have n0_:=Aside0.mk (hb);have n1_:=Aside0.mk (ho);clear HB;clear HO340;have HB:=n0_;have HO345:=n1_;clear n0_ n1_;clear ho hb hg hat))
      go_ret
      exact ⟨_,by first|rfl|(simp [errW_none,errW_some] <;> rfl)|(simp [*,errW_none,errW_some] <;> rfl),by (with_reducible repeat (first|apply Kd.R_alloc|apply Kd.R_drewN|apply Kd.R_drew));exact HO345.out,by repeat (first|(with_reducible first|exact HB.out|apply below_alloc|apply pw_below_drewN|apply below_drew1)|exact HB.out)⟩
     ·
      rw [if_neg c12] at H
      exact absurd H (by simp)
    ·
     rw [if_neg c7] at H
     exact absurd H (by simp)
   ·
    rw [if_neg c6] at H
    exact absurd H (by simp)
  ·
   rw [if_neg c5] at H
   have c5b0:decide (a1 < t336)=false:=decide_eq_false c5
   clear c5
   by_cases c18:0≤t336
   ·
    rw [if_pos c18] at H
    have c18b0:=eq_true c18
    have c18b1:decide (0≤t336)=true:=decide_eq_true c18
    clear c18
    by_cases c19:t336≤(l0.length:Int)
    ·
     rw [if_pos c19] at H
     have c19b0:=eq_true c19
     have c19b1:decide (t336≤(l0.length:Int))=true:=decide_eq_true c19
     clear c19
     replace H:=Option.bind_eq_some_iff.mp H
     obtain ⟨t347,A200,H⟩:=H
     replace H:((mosaicref03_Top.f k (l0.take (t336:Int).toNat)).bind fun t351=>(if t347.length < 8796093022208 then (some (t347 ++ [t351])) else (none)))=some r:=H
     have A20:=Aside0.mk A200
     clear A200
     have c21b0:=eq_true (of_decide_eq_true (by first|(with_reducible assumption)|assumption):0≤t336)
     have c22b0:=eq_true (of_decide_eq_true (by first|(with_reducible assumption)|assumption):t336≤(l0.length:Int))
     replace H:=Option.bind_eq_some_iff.mp H
     obtain ⟨t351,A230,H⟩:=H
     replace H:(if t347.length < 8796093022208 then (some (t347 ++ [t351])) else (none))=some r:=H
     have A23:=Aside0.mk A230
     clear A230
     by_cases c24:t347.length < 8796093022208
     ·
      rw [if_pos c24] at H
      have LMc24:=Aside0.mk c24
      clear c24
      obtain ⟨y352,hy352⟩:∃ y_:List ByteArray,y_=(t347 ++ [t351]):=⟨_,rfl⟩
      replace H:(some y352)=some r:=by first|(rw [hy352];with_reducible exact H)|(have H2_:=(Option.bind_some _ _).symm.trans H;rw [hy352];with_reducible exact H2_)|(have H2_:=(Option.bind_some _ _).symm.trans H;with_reducible exact H2_)|with_reducible exact H|(rw [hy352];exact H)|exact H
      have Ny352:=Aside0.mk hy352
      clear hy352
      obtain rfl:=Option.some.inj H
      go_enter Try.func98,Try.ntmps98
      go_wp2_with (first|((with_reducible refine gate_callee (f:=99) rfl ?_);refine goesL_ (some 12) rfl rfl Try.func99 (by kernel_rfl) rfl #[.int .i64 (l0.length:Int)] rfl (by (try simp only [List.map_toArray,List.map_cons,List.map_nil]);first|done|rfl|(simp only [List.length_drop,List.length_take];rfl)) ?_;(with_reducible refine (mosaicref03_half.calls k (l0.length:Int) t336 _ A4.out).mono ?_);rintro e w' ⟨rfl,⟨nd,rfl⟩⟩;refine ⟨_,rfl,?_⟩;obtain ⟨i025,hi025,_,hsz25,_⟩:=info_parts info9;obtain ⟨A25,hcut25,hA25,hC25⟩:=print_drop_of (P:=Try.prog) Value.string (⟨#[]⟩:ByteArray) 39 9 .i64 Try.underlying39 hi025 hsz25 A0 c0 l0 t336 (of_decide_eq_true (by first|(with_reducible assumption)|assumption)) (of_decide_eq_true (by first|(with_reducible assumption)|assumption)) HC0.out;have HR346:=Aside0.mk (Kd.C_of_reads (h1:=fun _=>rfl) (hA25 _ (Kd.reads_of_C HR0.out)));have HC346:=Aside0.mk hC25;clear hA25 hC25 hi025 hsz25)|((with_reducible refine gate_callee (f:=98) rfl ?_);refine goesL_ (some 34) rfl rfl Try.func98 (by kernel_rfl) rfl #[.slice A25 (l0.drop (t336:Int).toNat).length (c0 - t336.toNat),.int .i64 (wrap64 (a1 - t336))] rfl (by (try simp only [List.map_toArray,List.map_cons,List.map_nil]);first|done|(rw [show (l0.drop (t336:Int).toNat).length=(l0.length - t336.toNat) from List.length_drop] <;> rfl)|rfl|(simp only [List.length_drop,List.length_take];rfl)) ?_;(with_reducible refine (ih k (by omega) _ _ (l0.drop (t336:Int).toNat) (wrap64 (a1 - t336)) t347 _ ?side1 ?side2 A20.out).mono ?_);(case side1=>repeat (first|exact HR346.out|(with_reducible refine Kd.C_alloc ?_ _)|(with_reducible refine Kd.C_drewN ?_ _)|(with_reducible refine Kd.C_drew ?_)));(case side2=>exact HC346.out);rintro e w26 ⟨v348,rfl,ho0,hb⟩;refine ⟨_,rfl,?_⟩;have n0_:=Aside0.mk (Kd.R_lower ho0 (below_size (by repeat (first|(with_reducible first|exact HB.out|apply below_alloc|apply pw_below_drewN|apply below_drew1)|exact HB.out))));have n1_:=Aside0.mk (below_step (by repeat (first|(with_reducible first|exact HB.out|apply below_alloc|apply pw_below_drewN|apply below_drew1)|exact HB.out)) hb);clear HB;have HO349:=n0_;have HB:=n1_;clear n0_ n1_;(try clear hb);(try clear hb2);(try clear hk);(try clear hi);(try clear ho0);obtain ⟨i027,hi027,_,hsz27,_⟩:=info_parts info9;obtain ⟨hcut27,hA27,hC27⟩:=print_take_of (P:=Try.prog) Value.string (⟨#[]⟩:ByteArray) 39 9 .i64 Try.underlying39 hi027 hsz27 A0 c0 l0 t336 (of_decide_eq_true (by first|(with_reducible assumption)|assumption)) (of_decide_eq_true (by first|(with_reducible assumption)|assumption)) HC0.out;have HR350:=Aside0.mk (Kd.C_of_reads (h1:=fun _=>rfl) (hA27 _ (Kd.reads_of_C HR0.out)));have HC350:=Aside0.mk hC27;clear hA27 hC27 hi027 hsz27)|((with_reducible refine gate_callee (f:=95) rfl ?_);refine goesL_ (some 39) rfl rfl Try.func95 (by kernel_rfl) rfl #[.slice A0 (l0.take (t336:Int).toNat).length c0] rfl (by (try simp only [List.map_toArray,List.map_cons,List.map_nil]);first|done|(rw [show (l0.take (t336:Int).toNat).length=t336.toNat from (by rw [List.length_take];have h_:(t336:Int)≤(l0.length:Int):=of_decide_eq_true (by first|(with_reducible assumption)|assumption);omega)] <;> rfl)|rfl|(simp only [List.length_drop,List.length_take];rfl)) ?_;(with_reducible refine (mosaicref03_Top.calls k _ _ (l0.take (t336:Int).toNat) t351 _ ?side1 ?side2 A23.out).mono ?_);(case side1=>repeat (first|exact (Kd.C_below HR350.out HB.out)|(with_reducible refine Kd.C_alloc ?_ _)|(with_reducible refine Kd.C_drewN ?_ _)|(with_reducible refine Kd.C_drew ?_)));(case side2=>exact HC350.out);rintro e w28 ⟨rfl,hb⟩;refine ⟨_,rfl,?_⟩;have n0_:=Aside0.mk (Kd.R_below (by (with_reducible repeat (first|apply Kd.R_alloc|apply Kd.R_drewN|apply Kd.R_drew));exact HO349.out) hb);have n1_:=Aside0.mk (below_step (by repeat (first|(with_reducible first|exact HB.out|apply below_alloc|apply pw_below_drewN|apply below_drew1)|exact HB.out)) hb);clear HO349;clear HB;have HO349:=n0_;have HB:=n1_;clear n0_ n1_;(try clear hb);(try clear hb2);(try clear hk);(try clear hi))|((with_reducible refine gate_builtin (b:=.append) (xs:=#[.tmp 35,.tmp 40]) rfl ?_);at_builtin;refine Kd.R_append Kd.string (w0:=w) w.heap.size rfl (.tmp 35) (.tmp 40) 39 9 (.string ⟨#[]⟩) 16 rfl Try.underlying39 info9 rfl (by decide) (by omega) v348 t347 t351 [.string t351] (fun _=>True) (fun _=>False) rfl rfl ?aP (fun _ hk=>hk.elim) ?aF ?aO ?aB ?aS ?aL ?_;(case aP=>exact rfl);(case aB=>exact (by repeat (first|(with_reducible first|exact HB.out|apply below_alloc|apply pw_below_drewN|apply below_drew1)|exact HB.out)));(case aF=>exact (fun _ _=>trivial));(case aO=>exact (by (with_reducible repeat (first|apply Kd.R_alloc|apply Kd.R_drewN|apply Kd.R_drew));exact HO349.out));(case aS=>exact (below_size (by repeat (first|(with_reducible first|exact HB.out|apply below_alloc|apply pw_below_drewN|apply below_drew1)|exact HB.out))));(case aL=>have:=LMc24.out;omega);intro v353 w29 ho hb hg hat;rw [← Ny352.out] at ho;have n0_:=Aside0.mk (hb);have n1_:=Aside0.mk (ho);clear HB;clear HO349;have HB:=n0_;have HO354:=n1_;clear n0_ n1_;clear ho hb hg hat))
      go_ret
      exact ⟨_,by first|rfl|(simp [errW_none,errW_some] <;> rfl)|(simp [*,errW_none,errW_some] <;> rfl),by (with_reducible repeat (first|apply Kd.R_alloc|apply Kd.R_drewN|apply Kd.R_drew));exact HO354.out,by repeat (first|(with_reducible first|exact HB.out|apply below_alloc|apply pw_below_drewN|apply below_drew1)|exact HB.out)⟩
     ·
      rw [if_neg c24] at H
      exact absurd H (by simp)
    ·
     rw [if_neg c19] at H
     exact absurd H (by simp)
   ·
    rw [if_neg c18] at H
    exact absurd H (by simp)
end Go.Proofs.Ytelcaepenfjloaa.Print
/-! #### Pr53 -/
namespace Go.Proofs.Ytelcaepenfjloaa.Print
open Go.RowKit Go.Proofs.YtelcaepenfjloaaW.PrintWords Go.Proofs.YtelcaepenfjloaaW.PrintLast Go.Proofs.YtelcaepenfjloaaW.PrintMore
attribute [local go_sem] max2_int min2_int max_two min_two max_three min_three max_four min_four
set_option linter.unusedVariables false
set_option linter.unusedSimpArgs false
/-! ### mosaicref03_Path: function 53 -/
def mosaicref03_Path.f (k:Nat) (l0:List ByteArray) (a1:Int):Option (List ByteArray×Int):=(mosaicref03_May.f k l0).bind fun t355=>(if t355=0 then (if a1 < 0 then (some (([]:List ByteArray),1)) else (if a1≥(l0.length:Int) then (some (([]:List ByteArray),1)) else ((mosaicref03_way.f k l0 a1).bind fun t356=>(some (t356,0))))) else (some (([]:List ByteArray),t355)))
theorem mosaicref03_Path.mono:∀ a0 a1 k,LeO (mosaicref03_Path.f k a0 a1) (mosaicref03_Path.f (k+1) a0 a1):=by
 intro a0 a1 k
 unfold mosaicref03_Path.f
 repeat' first
   | (with_reducible exact mosaicref03_May.mono _ _)
   | (with_reducible exact mosaicref03_way.mono _ _ _)
   | (with_reducible exact LeO.refl _)
   | (with_reducible exact LeO.none _)
   | (with_reducible refine LeO.ite ?_ ?_)
   | (with_reducible refine LeO.bind ?_ (fun _=>?_))
   | exact mosaicref03_May.mono _ _
   | exact mosaicref03_way.mono _ _ _
   | exact LeO.none _
   | refine LeO.ite ?_ ?_
   | refine LeO.bind ?_ (fun _=>?_)
set_option maxHeartbeats 8000000 in
set_option maxRecDepth 100000 in
theorem mosaicref03_Path.calls (k:Nat) (A0:Option Addr) (c0:Nat) (l0:List ByteArray) (a1:Int) (r1:List ByteArray) (r2:Int) (w:World) (hr0:Kd.C Kd.string w A0 l0.length l0) (hc0:l0.length≤c0) (h:mosaicref03_Path.f k l0 a1=some (r1,r2)) :
  Calls Try.prog 53 #[.slice A0 l0.length c0,.int .i64 a1] w fun e w'=>∃ v0_:Value,e=.returned (.tuple #[v0_,.int .i64 r2])∧Kd.R Kd.string 9 w' w.heap.size (fun _=>True) v0_ r1∧Below w.heap.size w w':=by
 have HR0:=Aside0.mk hr0
 have HC0:=Aside0.mk hc0
 clear hr0 hc0
 have HB:=Aside0.mk (Below.refl w.heap.size w)
 have H:((mosaicref03_May.f k l0).bind fun t355=>(if t355=0 then (if a1 < 0 then (some (([]:List ByteArray),1)) else (if a1≥(l0.length:Int) then (some (([]:List ByteArray),1)) else ((mosaicref03_way.f k l0 a1).bind fun t356=>(some (t356,0))))) else (some (([]:List ByteArray),t355))))=some (r1,r2):=h
 clear h
 replace H:=Option.bind_eq_some_iff.mp H
 obtain ⟨t355,A30,H⟩:=H
 replace H:(if t355=0 then (if a1 < 0 then (some (([]:List ByteArray),1)) else (if a1≥(l0.length:Int) then (some (([]:List ByteArray),1)) else ((mosaicref03_way.f k l0 a1).bind fun t356=>(some (t356,0))))) else (some (([]:List ByteArray),t355)))=some (r1,r2):=H
 have A3:=Aside0.mk A30
 clear A30
 by_cases c4:t355=0
 ·
  rw [if_pos c4] at H
  have c4b0:(t355 == 0)=true:=beq_iff_eq.mpr c4
  have c4b1:(t355 != 0)=false:=bne_eq_false_iff_eq.mpr c4
  clear c4
  by_cases c5:a1 < 0
  ·
   rw [if_pos c5] at H
   have c5b0:decide (a1 < 0)=true:=decide_eq_true c5
   clear c5
   simp only [Option.some.injEq,Prod.mk.injEq] at H
   obtain ⟨rfl,rfl⟩:=H
   go_enter Try.func53,Try.ntmps53
   go_wp2_with (first|((with_reducible refine gate_callee (f:=94) rfl ?_);refine goesL_ (some 8) rfl rfl Try.func94 (by kernel_rfl) rfl #[.slice A0 l0.length c0] rfl (by (try simp only [List.map_toArray,List.map_cons,List.map_nil]);first|done|rfl|(simp only [List.length_drop,List.length_take];rfl)) ?_;(with_reducible refine (mosaicref03_May.calls k _ _ l0 t355 _ ?side1 ?side2 A3.out).mono ?_);(case side1=>repeat (first|exact HR0.out|(with_reducible refine Kd.C_alloc ?_ _)|(with_reducible refine Kd.C_drewN ?_ _)|(with_reducible refine Kd.C_drew ?_)));(case side2=>exact HC0.out);rintro e w' ⟨rfl,⟨nd,rfl⟩⟩;refine ⟨_,rfl,?_⟩))
   go_ret2
   exact ⟨_,by first|rfl|(simp [errW_none,errW_some] <;> rfl)|(simp [*,errW_none,errW_some] <;> rfl),by first|exact Kd.R_nil _ _ _ _ _|exact Kd.N_nil _ _ _ _ _|exact Kd.V_nil _ _ _ _ _|exact Kd.Q_nil _ _ _ _ _|exact Kd.S_nil _ _ _ _ _,by repeat (first|(with_reducible first|exact HB.out|apply below_alloc|apply pw_below_drewN|apply below_drew1)|exact HB.out)⟩
  ·
   rw [if_neg c5] at H
   have c5b0:decide (a1 < 0)=false:=decide_eq_false c5
   clear c5
   by_cases c6:a1≥(l0.length:Int)
   ·
    rw [if_pos c6] at H
    have c6b0:decide ((l0.length:Int)≤a1)=true:=decide_eq_true c6
    clear c6
    simp only [Option.some.injEq,Prod.mk.injEq] at H
    obtain ⟨rfl,rfl⟩:=H
    go_enter Try.func53,Try.ntmps53
    go_wp2_with (first|((with_reducible refine gate_callee (f:=94) rfl ?_);refine goesL_ (some 8) rfl rfl Try.func94 (by kernel_rfl) rfl #[.slice A0 l0.length c0] rfl (by (try simp only [List.map_toArray,List.map_cons,List.map_nil]);first|done|rfl|(simp only [List.length_drop,List.length_take];rfl)) ?_;(with_reducible refine (mosaicref03_May.calls k _ _ l0 t355 _ ?side1 ?side2 A3.out).mono ?_);(case side1=>repeat (first|exact HR0.out|(with_reducible refine Kd.C_alloc ?_ _)|(with_reducible refine Kd.C_drewN ?_ _)|(with_reducible refine Kd.C_drew ?_)));(case side2=>exact HC0.out);rintro e w' ⟨rfl,⟨nd,rfl⟩⟩;refine ⟨_,rfl,?_⟩))
    go_ret2
    exact ⟨_,by first|rfl|(simp [errW_none,errW_some] <;> rfl)|(simp [*,errW_none,errW_some] <;> rfl),by first|exact Kd.R_nil _ _ _ _ _|exact Kd.N_nil _ _ _ _ _|exact Kd.V_nil _ _ _ _ _|exact Kd.Q_nil _ _ _ _ _|exact Kd.S_nil _ _ _ _ _,by repeat (first|(with_reducible first|exact HB.out|apply below_alloc|apply pw_below_drewN|apply below_drew1)|exact HB.out)⟩
   ·
    rw [if_neg c6] at H
    have c6b0:decide ((l0.length:Int)≤a1)=false:=decide_eq_false c6
    clear c6
    replace H:=Option.bind_eq_some_iff.mp H
    obtain ⟨t356,A70,H⟩:=H
    replace H:(some (t356,0))=some (r1,r2):=H
    have A7:=Aside0.mk A70
    clear A70
    simp only [Option.some.injEq,Prod.mk.injEq] at H
    obtain ⟨rfl,rfl⟩:=H
    go_enter Try.func53,Try.ntmps53
    go_wp2_with (first|((with_reducible refine gate_callee (f:=94) rfl ?_);refine goesL_ (some 8) rfl rfl Try.func94 (by kernel_rfl) rfl #[.slice A0 l0.length c0] rfl (by (try simp only [List.map_toArray,List.map_cons,List.map_nil]);first|done|rfl|(simp only [List.length_drop,List.length_take];rfl)) ?_;(with_reducible refine (mosaicref03_May.calls k _ _ l0 t355 _ ?side1 ?side2 A3.out).mono ?_);(case side1=>repeat (first|exact HR0.out|(with_reducible refine Kd.C_alloc ?_ _)|(with_reducible refine Kd.C_drewN ?_ _)|(with_reducible refine Kd.C_drew ?_)));(case side2=>exact HC0.out);rintro e w' ⟨rfl,⟨nd,rfl⟩⟩;refine ⟨_,rfl,?_⟩)|((with_reducible refine gate_callee (f:=98) rfl ?_);refine goesL_ (some 22) rfl rfl Try.func98 (by kernel_rfl) rfl #[.slice A0 l0.length c0,.int .i64 a1] rfl (by (try simp only [List.map_toArray,List.map_cons,List.map_nil]);first|done|rfl|(simp only [List.length_drop,List.length_take];rfl)) ?_;(with_reducible refine (mosaicref03_way.calls k _ _ l0 a1 t356 _ ?side1 ?side2 A7.out).mono ?_);(case side1=>repeat (first|exact HR0.out|(with_reducible refine Kd.C_alloc ?_ _)|(with_reducible refine Kd.C_drewN ?_ _)|(with_reducible refine Kd.C_drew ?_)));(case side2=>exact HC0.out);rintro e w8 ⟨v357,rfl,ho0,hb⟩;refine ⟨_,rfl,?_⟩;have n0_:=Aside0.mk (Kd.R_lower ho0 (below_size (by repeat (first|(with_reducible first|exact HB.out|apply below_alloc|apply pw_below_drewN|apply below_drew1)|exact HB.out))));have n1_:=Aside0.mk (below_step (by repeat (first|(with_reducible first|exact HB.out|apply below_alloc|apply pw_below_drewN|apply below_drew1)|exact HB.out)) hb);clear HB;have HO358:=n0_;have HB:=n1_;clear n0_ n1_;(try clear hb);(try clear hb2);(try clear hk);(try clear hi);(try clear ho0)))
    go_ret2
    exact ⟨_,by first|rfl|(simp [errW_none,errW_some] <;> rfl)|(simp [*,errW_none,errW_some] <;> rfl),by (with_reducible repeat (first|apply Kd.R_alloc|apply Kd.R_drewN|apply Kd.R_drew));exact HO358.out,by repeat (first|(with_reducible first|exact HB.out|apply below_alloc|apply pw_below_drewN|apply below_drew1)|exact HB.out)⟩
 ·
  rw [if_neg c4] at H
  have c4b0:(t355 == 0)=false:=beq_eq_false_iff_ne.mpr c4
  have c4b1:(t355 != 0)=true:=bne_iff_ne.mpr c4
  simp only [Option.some.injEq,Prod.mk.injEq] at H
  obtain ⟨rfl,rfl⟩:=H
  go_enter Try.func53,Try.ntmps53
  go_wp2_with (first|((with_reducible refine gate_callee (f:=94) rfl ?_);refine goesL_ (some 8) rfl rfl Try.func94 (by kernel_rfl) rfl #[.slice A0 l0.length c0] rfl (by (try simp only [List.map_toArray,List.map_cons,List.map_nil]);first|done|rfl|(simp only [List.length_drop,List.length_take];rfl)) ?_;(with_reducible refine (mosaicref03_May.calls k _ _ l0 t355 _ ?side1 ?side2 A3.out).mono ?_);(case side1=>repeat (first|exact HR0.out|(with_reducible refine Kd.C_alloc ?_ _)|(with_reducible refine Kd.C_drewN ?_ _)|(with_reducible refine Kd.C_drew ?_)));(case side2=>exact HC0.out);rintro e w' ⟨rfl,⟨nd,rfl⟩⟩;refine ⟨_,rfl,?_⟩))
  go_ret2
  exact ⟨_,by first|rfl|(simp [errW_none,errW_some] <;> rfl)|(simp [*,errW_none,errW_some] <;> rfl),by first|exact Kd.R_nil _ _ _ _ _|exact Kd.N_nil _ _ _ _ _|exact Kd.V_nil _ _ _ _ _|exact Kd.Q_nil _ _ _ _ _|exact Kd.S_nil _ _ _ _ _,by repeat (first|(with_reducible first|exact HB.out|apply below_alloc|apply pw_below_drewN|apply below_drew1)|exact HB.out)⟩
end Go.Proofs.Ytelcaepenfjloaa.Print
/-! #### Pr54 -/
namespace Go.Proofs.Ytelcaepenfjloaa.Print
open Go.RowKit Go.Proofs.YtelcaepenfjloaaW.PrintWords Go.Proofs.YtelcaepenfjloaaW.PrintLast Go.Proofs.YtelcaepenfjloaaW.PrintMore
attribute [local go_sem] max2_int min2_int max_two min_two max_three min_three max_four min_four
set_option linter.unusedVariables false
set_option linter.unusedSimpArgs false
/-! ### mosaicref03_Same: function 54 -/
def mosaicref03_Same.l0:Nat→List ByteArray→List ByteArray→Int→Option (Bool)
 | 0,_,_,_=>none
 | k+1,x0,x1,x5=>if x5 < (x0.length:Int) then (if 0≤x5 then (if x5 < (x1.length:Int) then (if (rdOf ByteArray.empty x0 x5).toList=(rdOf ByteArray.empty x1 x5).toList then (mosaicref03_Same.l0 k x0 x1 (wrap64 (x5+1))) else (some false)) else (none)) else (none)) else (some true)
def mosaicref03_Same.f (k:Nat) (l0:List ByteArray) (l1:List ByteArray):Option (Bool):=if (l0.length:Int)=(l1.length:Int) then (mosaicref03_Same.l0 k l0 l1 0) else (some false)
theorem mosaicref03_Same.mono_l:∀ k,(∀ y0 y1 y2,LeO (mosaicref03_Same.l0 k y0 y1 y2) (mosaicref03_Same.l0 (k+1) y0 y1 y2))
 | 0=>fun _ _ _ r h=>by simp [mosaicref03_Same.l0] at h
 | k+1=>by
  have ih0:=mosaicref03_Same.mono_l k
  ·
   intro y0 y1 y2
   unfold mosaicref03_Same.l0
   repeat' first
   | (with_reducible exact ih0 _ _ _)
   | (with_reducible exact LeO.refl _)
   | (with_reducible exact LeO.none _)
   | (with_reducible refine LeO.ite ?_ ?_)
   | (with_reducible refine LeO.bind ?_ (fun _=>?_))
   | exact ih0 _ _ _
   | exact LeO.none _
   | refine LeO.ite ?_ ?_
   | refine LeO.bind ?_ (fun _=>?_)
theorem mosaicref03_Same.mono:∀ a0 a1 k,LeO (mosaicref03_Same.f k a0 a1) (mosaicref03_Same.f (k+1) a0 a1):=by
 intro a0 a1 k
 have ih0:=mosaicref03_Same.mono_l k
 unfold mosaicref03_Same.f
 repeat' first
   | (with_reducible exact ih0 _ _ _)
   | (with_reducible exact LeO.refl _)
   | (with_reducible exact LeO.none _)
   | (with_reducible refine LeO.ite ?_ ?_)
   | (with_reducible refine LeO.bind ?_ (fun _=>?_))
   | exact ih0 _ _ _
   | exact LeO.none _
   | refine LeO.ite ?_ ?_
   | refine LeO.bind ?_ (fun _=>?_)
set_option maxHeartbeats 8000000 in
set_option maxRecDepth 100000 in
theorem mosaicref03_Same.calls (k:Nat) (A0:Option Addr) (c0:Nat) (l0:List ByteArray) (A1:Option Addr) (c1:Nat) (l1:List ByteArray) (r:Bool) (w:World) (hr0:Kd.C Kd.string w A0 l0.length l0) (hc0:l0.length≤c0) (hr1:Kd.C Kd.string w A1 l1.length l1) (hc1:l1.length≤c1) (h:mosaicref03_Same.f k l0 l1=some r) :
  Calls Try.prog 54 #[.slice A0 l0.length c0,.slice A1 l1.length c1] w fun e w'=>e=.returned (.bool r)∧Drawn0 w w':=by
 have HR0:=Aside0.mk hr0
 have HC0:=Aside0.mk hc0
 clear hr0 hc0
 have HR1:=Aside0.mk hr1
 have HC1:=Aside0.mk hc1
 clear hr1 hc1
 have H:(if (l0.length:Int)=(l1.length:Int) then (mosaicref03_Same.l0 k l0 l1 0) else (some false))=some r:=h
 clear h
 by_cases c3:(l0.length:Int)=(l1.length:Int)
 ·
  rw [if_pos c3] at H
  have c3b0:((l0.length:Int) == (l1.length:Int))=true:=beq_iff_eq.mpr c3
  have c3b1:((l0.length:Int) != (l1.length:Int))=false:=bne_eq_false_iff_eq.mpr c3
  have c3b2:(l0.length == l1.length)=true:=by first|simpa using c3|(simp at c3 ⊢;omega)
  clear c3
  have H':=Aside0.mk H
  clear H
  go_enter Try.func54,Try.ntmps54
  go_wp2
  repeat (go_quiet (fail);try go_wp2)
  go_loopg [5] k (fun kq v5 w'=>∃ (x5_1:Int),v5=.int .i64 x5_1∧Aside0 (mosaicref03_Same.l0 kq l0 l1 x5_1=some r)∧Aside0 (kq≤k)∧Drawn0 w w')
  case atStart=>exact ⟨(0),(by first|rfl|(simp;done)|(simp [*];done)),H',⟨Nat.le_refl _⟩,by repeat (first|exact Drawn0.refl _|apply Drawn0.step)⟩
  case round =>
   clear H'
   try clear c1
   try clear p2
   try clear c3
   try clear c3b0
   try clear c3b1
   try clear c3b2
   obtain ⟨x5_1,rfl,HA,HK1,⟨m1,rfl⟩⟩:=hrel
   cases gk with
   | zero=>exact absurd HA.out (by simp [mosaicref03_Same.l0])
   | succ k1 =>
    have H:=HA.out
    clear HA
    simp only [mosaicref03_Same.l0] at H
    by_cases c4:x5_1 < (l0.length:Int)
    ·
     rw [if_pos c4] at H
     have c4b0:decide (x5_1 < (l0.length:Int))=true:=decide_eq_true c4
     clear c4
     by_cases c5:0≤x5_1
     ·
      rw [if_pos c5] at H
      have c5b0:decide (0≤x5_1)=true:=decide_eq_true c5
      clear c5
      by_cases c6:x5_1 < (l1.length:Int)
      ·
       rw [if_pos c6] at H
       have c6b0:decide (x5_1 < (l1.length:Int))=true:=decide_eq_true c6
       clear c6
       by_cases c7:(rdOf ByteArray.empty l0 x5_1).toList=(rdOf ByteArray.empty l1 x5_1).toList
       ·
        rw [if_pos c7] at H
        have c7b0:((rdOf ByteArray.empty l0 x5_1).toList == (rdOf ByteArray.empty l1 x5_1).toList)=true:=beq_iff_eq.mpr c7
        have c7b1:((rdOf ByteArray.empty l0 x5_1).toList != (rdOf ByteArray.empty l1 x5_1).toList)=false:=bne_eq_false_iff_eq.mpr c7
        clear c7
        have H':=Aside0.mk H
        clear H
        have p359:0≤(x5_1:Int):=of_decide_eq_true (by first|(with_reducible assumption)|assumption)
        have q359:x5_1 < (l0.length:Int):=of_decide_eq_true (by first|(with_reducible assumption)|assumption)
        obtain ⟨ad359,e359,hx359_0⟩:=Kd.at_string HR0.out x5_1 p359 q359
        cases e359
        replace p359:=eq_true p359
        replace q359:=eq_true q359
        have p360:0≤(x5_1:Int):=of_decide_eq_true (by first|(with_reducible assumption)|assumption)
        have q360:x5_1 < (l1.length:Int):=of_decide_eq_true (by first|(with_reducible assumption)|assumption)
        obtain ⟨ad360,e360,hx360_0⟩:=Kd.at_string HR1.out x5_1 p360 q360
        cases e360
        replace p360:=eq_true p360
        replace q360:=eq_true q360
        go_wp2
        repeat (go_quiet (fail);try go_wp2)
        go_roundg k1
        case measure=>have:=HK1.out;omega
        case rel=>exact ⟨(wrap64 (x5_1+1)),(by first|rfl|(simp;done)|(simp [*];done)),H',⟨by have:=HK1.out;omega⟩,by repeat (first|exact Drawn0.refl _|apply Drawn0.step)⟩
       ·
        rw [if_neg c7] at H
        have c7b0:((rdOf ByteArray.empty l0 x5_1).toList == (rdOf ByteArray.empty l1 x5_1).toList)=false:=beq_eq_false_iff_ne.mpr c7
        have c7b1:((rdOf ByteArray.empty l0 x5_1).toList != (rdOf ByteArray.empty l1 x5_1).toList)=true:=bne_iff_ne.mpr c7
        obtain rfl:=Option.some.inj H
        have p359:0≤(x5_1:Int):=of_decide_eq_true (by first|(with_reducible assumption)|assumption)
        have q359:x5_1 < (l0.length:Int):=of_decide_eq_true (by first|(with_reducible assumption)|assumption)
        obtain ⟨ad359,e359,hx359_0⟩:=Kd.at_string HR0.out x5_1 p359 q359
        cases e359
        replace p359:=eq_true p359
        replace q359:=eq_true q359
        have p360:0≤(x5_1:Int):=of_decide_eq_true (by first|(with_reducible assumption)|assumption)
        have q360:x5_1 < (l1.length:Int):=of_decide_eq_true (by first|(with_reducible assumption)|assumption)
        obtain ⟨ad360,e360,hx360_0⟩:=Kd.at_string HR1.out x5_1 p360 q360
        cases e360
        replace p360:=eq_true p360
        replace q360:=eq_true q360
        go_wp2
        repeat (go_quiet (fail);try go_wp2)
        go_ret
        exact ⟨by first|rfl|(simp;done)|(simp [*];done),by repeat (first|exact Drawn0.refl _|apply Drawn0.step)⟩
      ·
       rw [if_neg c6] at H
       exact absurd H (by simp)
     ·
      rw [if_neg c5] at H
      exact absurd H (by simp)
    ·
     rw [if_neg c4] at H
     have c4b0:decide (x5_1 < (l0.length:Int))=false:=decide_eq_false c4
     clear c4
     obtain rfl:=Option.some.inj H
     go_wp2
     repeat (go_quiet (fail);try go_wp2)
     go_ret
     exact ⟨by first|rfl|(simp;done)|(simp [*];done),by repeat (first|exact Drawn0.refl _|apply Drawn0.step)⟩
 ·
  rw [if_neg c3] at H
  have c3b0:((l0.length:Int) == (l1.length:Int))=false:=beq_eq_false_iff_ne.mpr c3
  have c3b1:((l0.length:Int) != (l1.length:Int))=true:=bne_iff_ne.mpr c3
  have c3b2:(l0.length == l1.length)=false:=by first|simpa using c3|(simp at c3 ⊢;omega)
  obtain rfl:=Option.some.inj H
  go_enter Try.func54,Try.ntmps54
  go_wp2
  repeat (go_quiet (fail);try go_wp2)
  go_ret
  exact ⟨by first|rfl|(simp;done)|(simp [*];done),by repeat (first|exact Drawn0.refl _|apply Drawn0.step)⟩
end Go.Proofs.Ytelcaepenfjloaa.Print
