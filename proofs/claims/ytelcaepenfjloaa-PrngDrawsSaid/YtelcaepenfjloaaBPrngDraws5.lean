/- The proof of the statement PrngDraws of the seat, part 5 of 7: the functions that it reaches, as plain functions, with the walks that show it, and what they come to; the last part ends in the row. No condition beyond the statement's own. -/
import Derived.Test.YtelcaepenfjloaaBPrngDraws1
import Derived.Test.YtelcaepenfjloaaBPrngDraws2
import Derived.Test.YtelcaepenfjloaaBPrngDraws3
import Derived.Test.YtelcaepenfjloaaBPrngDraws4
/-! #### Pr16 -/
namespace Go.Proofs.Ytelcaepenfjloaa.Print
open Go.RowKit Go.Proofs.YtelcaepenfjloaaW.PrintWords Go.Proofs.YtelcaepenfjloaaW.PrintLast Go.Proofs.YtelcaepenfjloaaW.PrintMore
attribute [local go_sem] max2_int min2_int max_two min_two max_three min_three max_four min_four
set_option linter.unusedVariables false
set_option linter.unusedSimpArgs false
/-! ### mosaiclaw04_PrngBlocks: function 16 -/
mutual
def mosaiclaw04_PrngBlocks.j0:Nat→ByteArray→Int→Bool→ByteArray→Int→ByteArray→Option (Bool)
 | 0,_,_,_,_,_,_=>none
 | k+1,x0,x2,x35,x516000,x516001,x516002=>if x35=true then (some false) else (mosaiclaw04_PrngBlocks.l0 k x2 0 x516000 x516001 x516002 x0 0)
def mosaiclaw04_PrngBlocks.l0:Nat→Int→Int→ByteArray→Int→ByteArray→ByteArray→Int→Option (Bool)
 | 0,_,_,_,_,_,_,_=>none
 | k+1,x2,x9,x516000,x516001,x516002,x520000,x520001=>if x9 < x2 then (mosaiclaw04_PrngBlocks.j2 k x2 x9 (decide (x9 < 40)) x516000 x516001 x516002 x520000 x520001) else (mosaiclaw04_PrngBlocks.j2 k x2 x9 false x516000 x516001 x516002 x520000 x520001)
def mosaiclaw04_PrngBlocks.j2:Nat→Int→Int→Bool→ByteArray→Int→ByteArray→ByteArray→Int→Option (Bool)
 | 0,_,_,_,_,_,_,_,_=>none
 | k+1,x2,x9,x48,x516000,x516001,x516002,x520000,x520001=>if x48=true then ((mosaicref04_Gen_Word.f k x520000 x520001).bind fun bt520=>((prng_Gen_Word.f k x516000 x516001 x516002).bind fun bt524=>(if (wrap64 (bt524.1))=bt520.2.2 then ((prng_Gen_Used.f bt524.2.1 bt524.2.2.1 bt524.2.2.2).bind fun bt528=>(if bt528.1=(wrap64 (x9+1)) then (mosaiclaw04_PrngBlocks.l0 k x2 (wrap64 (x9+1)) bt528.2.1 bt528.2.2.1 bt528.2.2.2 bt520.1 bt520.2.1) else (some false))) else (some false)))) else (some true)
end
def mosaiclaw04_PrngBlocks.f (k:Nat) (a0:ByteArray) (a1:Int) (a2:Int):Option (Bool):=if (a0.size:Int) > 100 then ((mosaiclaw04_awake.f k).bind fun t511=>(some t511)) else ((prng_New.f a0).bind fun bt512=>((mosaiclaw04_awake.f k).bind fun t516=>(if t516=true then ((prng_Block.f k a0 a1).bind fun t517=>((mosaicref04_Block.f k a0 a1).bind fun t518=>(if t517.toList=t518.toList then (mosaiclaw04_PrngBlocks.j0 k a0 a2 (false != (decide ((a0.size:Int) > 64))) bt512.1 bt512.2.1 bt512.2.2) else (mosaiclaw04_PrngBlocks.j0 k a0 a2 true bt512.1 bt512.2.1 bt512.2.2)))) else (mosaiclaw04_PrngBlocks.j0 k a0 a2 true bt512.1 bt512.2.1 bt512.2.2))))
theorem mosaiclaw04_PrngBlocks.mono_l:∀ k,(∀ y0 y1 y2 y3 y4 y5,LeO (mosaiclaw04_PrngBlocks.j0 k y0 y1 y2 y3 y4 y5) (mosaiclaw04_PrngBlocks.j0 (k+1) y0 y1 y2 y3 y4 y5))∧(∀ y0 y1 y2 y3 y4 y5 y6,LeO (mosaiclaw04_PrngBlocks.l0 k y0 y1 y2 y3 y4 y5 y6) (mosaiclaw04_PrngBlocks.l0 (k+1) y0 y1 y2 y3 y4 y5 y6))∧(∀ y0 y1 y2 y3 y4 y5 y6 y7,LeO (mosaiclaw04_PrngBlocks.j2 k y0 y1 y2 y3 y4 y5 y6 y7) (mosaiclaw04_PrngBlocks.j2 (k+1) y0 y1 y2 y3 y4 y5 y6 y7))
 | 0=>⟨fun _ _ _ _ _ _ r h=>by simp [mosaiclaw04_PrngBlocks.j0] at h,fun _ _ _ _ _ _ _ r h=>by simp [mosaiclaw04_PrngBlocks.l0] at h,fun _ _ _ _ _ _ _ _ r h=>by simp [mosaiclaw04_PrngBlocks.j2] at h⟩
 | k+1=>by
  obtain ⟨ih0,ih1,ih2⟩:=mosaiclaw04_PrngBlocks.mono_l k
  refine ⟨?_,?_,?_⟩
  ·
   intro y0 y1 y2 y3 y4 y5
   unfold mosaiclaw04_PrngBlocks.j0
   repeat' first
   | (with_reducible exact ih0 _ _ _ _ _ _)
   | (with_reducible exact ih1 _ _ _ _ _ _ _)
   | (with_reducible exact ih2 _ _ _ _ _ _ _ _)
   | (with_reducible exact mosaiclaw04_awake.mono _)
   | (with_reducible exact mosaicref04_Block.mono _ _ _)
   | (with_reducible exact mosaicref04_Gen_Word.mono _ _ _)
   | (with_reducible exact prng_Block.mono _ _ _)
   | (with_reducible exact prng_Gen_Word.mono _ _ _ _)
   | (with_reducible exact LeO.refl _)
   | (with_reducible exact LeO.none _)
   | (with_reducible refine LeO.ite ?_ ?_)
   | (with_reducible refine LeO.bind ?_ (fun _=>?_))
   | exact ih0 _ _ _ _ _ _
   | exact ih1 _ _ _ _ _ _ _
   | exact ih2 _ _ _ _ _ _ _ _
   | exact mosaiclaw04_awake.mono _
   | exact mosaicref04_Block.mono _ _ _
   | exact mosaicref04_Gen_Word.mono _ _ _
   | exact prng_Block.mono _ _ _
   | exact prng_Gen_Word.mono _ _ _ _
   | exact LeO.none _
   | refine LeO.ite ?_ ?_
   | refine LeO.bind ?_ (fun _=>?_)
  ·
   intro y0 y1 y2 y3 y4 y5 y6
   unfold mosaiclaw04_PrngBlocks.l0
   repeat' first
   | (with_reducible exact ih0 _ _ _ _ _ _)
   | (with_reducible exact ih1 _ _ _ _ _ _ _)
   | (with_reducible exact ih2 _ _ _ _ _ _ _ _)
   | (with_reducible exact mosaiclaw04_awake.mono _)
   | (with_reducible exact mosaicref04_Block.mono _ _ _)
   | (with_reducible exact mosaicref04_Gen_Word.mono _ _ _)
   | (with_reducible exact prng_Block.mono _ _ _)
   | (with_reducible exact prng_Gen_Word.mono _ _ _ _)
   | (with_reducible exact LeO.refl _)
   | (with_reducible exact LeO.none _)
   | (with_reducible refine LeO.ite ?_ ?_)
   | (with_reducible refine LeO.bind ?_ (fun _=>?_))
   | exact ih0 _ _ _ _ _ _
   | exact ih1 _ _ _ _ _ _ _
   | exact ih2 _ _ _ _ _ _ _ _
   | exact mosaiclaw04_awake.mono _
   | exact mosaicref04_Block.mono _ _ _
   | exact mosaicref04_Gen_Word.mono _ _ _
   | exact prng_Block.mono _ _ _
   | exact prng_Gen_Word.mono _ _ _ _
   | exact LeO.none _
   | refine LeO.ite ?_ ?_
   | refine LeO.bind ?_ (fun _=>?_)
  ·
   intro y0 y1 y2 y3 y4 y5 y6 y7
   unfold mosaiclaw04_PrngBlocks.j2
   repeat' first
   | (with_reducible exact ih0 _ _ _ _ _ _)
   | (with_reducible exact ih1 _ _ _ _ _ _ _)
   | (with_reducible exact ih2 _ _ _ _ _ _ _ _)
   | (with_reducible exact mosaiclaw04_awake.mono _)
   | (with_reducible exact mosaicref04_Block.mono _ _ _)
   | (with_reducible exact mosaicref04_Gen_Word.mono _ _ _)
   | (with_reducible exact prng_Block.mono _ _ _)
   | (with_reducible exact prng_Gen_Word.mono _ _ _ _)
   | (with_reducible exact LeO.refl _)
   | (with_reducible exact LeO.none _)
   | (with_reducible refine LeO.ite ?_ ?_)
   | (with_reducible refine LeO.bind ?_ (fun _=>?_))
   | exact ih0 _ _ _ _ _ _
   | exact ih1 _ _ _ _ _ _ _
   | exact ih2 _ _ _ _ _ _ _ _
   | exact mosaiclaw04_awake.mono _
   | exact mosaicref04_Block.mono _ _ _
   | exact mosaicref04_Gen_Word.mono _ _ _
   | exact prng_Block.mono _ _ _
   | exact prng_Gen_Word.mono _ _ _ _
   | exact LeO.none _
   | refine LeO.ite ?_ ?_
   | refine LeO.bind ?_ (fun _=>?_)
theorem mosaiclaw04_PrngBlocks.mono:∀ a0 a1 a2 k,LeO (mosaiclaw04_PrngBlocks.f k a0 a1 a2) (mosaiclaw04_PrngBlocks.f (k+1) a0 a1 a2):=by
 intro a0 a1 a2 k
 obtain ⟨ih0,ih1,ih2⟩:=mosaiclaw04_PrngBlocks.mono_l k
 unfold mosaiclaw04_PrngBlocks.f
 repeat' first
   | (with_reducible exact ih0 _ _ _ _ _ _)
   | (with_reducible exact ih1 _ _ _ _ _ _ _)
   | (with_reducible exact ih2 _ _ _ _ _ _ _ _)
   | (with_reducible exact mosaiclaw04_awake.mono _)
   | (with_reducible exact mosaicref04_Block.mono _ _ _)
   | (with_reducible exact mosaicref04_Gen_Word.mono _ _ _)
   | (with_reducible exact prng_Block.mono _ _ _)
   | (with_reducible exact prng_Gen_Word.mono _ _ _ _)
   | (with_reducible exact LeO.refl _)
   | (with_reducible exact LeO.none _)
   | (with_reducible refine LeO.ite ?_ ?_)
   | (with_reducible refine LeO.bind ?_ (fun _=>?_))
   | exact ih0 _ _ _ _ _ _
   | exact ih1 _ _ _ _ _ _ _
   | exact ih2 _ _ _ _ _ _ _ _
   | exact mosaiclaw04_awake.mono _
   | exact mosaicref04_Block.mono _ _ _
   | exact mosaicref04_Gen_Word.mono _ _ _
   | exact prng_Block.mono _ _ _
   | exact prng_Gen_Word.mono _ _ _ _
   | exact LeO.none _
   | refine LeO.ite ?_ ?_
   | refine LeO.bind ?_ (fun _=>?_)
def mosaiclaw04_PrngBlocks.T12:Bool×List (List Nat×List Nat):=(true,[([],[]),([0],[0]),([1],[1]),([],[]),([3],[3]),([2,4],[2,4]),([5,1],[5]),([6],[6]),([7,6,6],[6,7]),([6],[6]),([9,6],[6,9]),([8,10,6],[6,8,10]),([6,11],[6,11])])
def mosaiclaw04_PrngBlocks.B12:List Nat:=[0,1,3,0,8,31,63,127,255,127,639,2047,4095]
theorem mosaiclaw04_PrngBlocks.tab12:rtab .any (opsOf Try.f16 12)=mosaiclaw04_PrngBlocks.T12:=by kernel_rfl
theorem mosaiclaw04_PrngBlocks.bits12:waitsOk mosaiclaw04_PrngBlocks.T12.2 mosaiclaw04_PrngBlocks.B12=true:=by kernel_rfl
set_option maxHeartbeats 8000000 in
set_option maxRecDepth 100000 in
theorem mosaiclaw04_PrngBlocks.callsT (k:Nat) (a0:ByteArray) (a1:Int) (a2:Int) (w:World) (h:mosaiclaw04_PrngBlocks.f k a0 a1 a2=some true) :
  Calls Try.prog 16 #[.string a0,.int .i64 a1,.int .i64 a2] w fun e w'=>e=.returned (.bool true)∧Below w.heap.size w w':=by
 have hu83:=Try.underlying83
 have hu85:=Try.underlying85
 have HB:=Aside0.mk (Below.refl w.heap.size w)
 have H:(if (a0.size:Int) > 100 then ((mosaiclaw04_awake.f k).bind fun t511=>(some t511)) else ((prng_New.f a0).bind fun bt512=>((mosaiclaw04_awake.f k).bind fun t516=>(if t516=true then ((prng_Block.f k a0 a1).bind fun t517=>((mosaicref04_Block.f k a0 a1).bind fun t518=>(if t517.toList=t518.toList then (mosaiclaw04_PrngBlocks.j0 k a0 a2 (false != (decide ((a0.size:Int) > 64))) bt512.1 bt512.2.1 bt512.2.2) else (mosaiclaw04_PrngBlocks.j0 k a0 a2 true bt512.1 bt512.2.1 bt512.2.2)))) else (mosaiclaw04_PrngBlocks.j0 k a0 a2 true bt512.1 bt512.2.1 bt512.2.2)))))=some true:=h
 clear h
 by_cases c4:(a0.size:Int) > 100
 ·
  rw [if_pos c4] at H
  have c4b0:decide (100 < (a0.size:Int))=true:=decide_eq_true c4
  have c4b1:decide (100 < a0.size)=true:=decide_eq_true (by omega)
  clear c4
  replace H:=Option.bind_eq_some_iff.mp H
  obtain ⟨t511,A50,H⟩:=H
  replace H:(some t511)=some true:=H
  have A5:=Aside0.mk A50
  clear A50
  obtain rfl:=Option.some.inj H
  go_enter Try.func16,Try.ntmps16
  go_wp2_with (first|((with_reducible refine gate_callee (f:=59) rfl ?_);refine goesL_ (some 14) rfl rfl Try.func59 (by kernel_rfl) rfl #[] rfl (by (try simp only [List.map_toArray,List.map_cons,List.map_nil]);first|done|rfl|(simp only [List.length_drop,List.length_take];rfl)) ?_;(with_reducible refine (mosaiclaw04_awake.calls k  true _ A5.out).mono ?_);rintro e w6 ⟨rfl,hb⟩;refine ⟨_,rfl,?_⟩;have n0_:=Aside0.mk (below_step (by repeat (first|(with_reducible first|exact HB.out|apply below_alloc|apply pw_below_drewN|apply below_drew1)|exact HB.out)) hb);clear HB;have HB:=n0_;clear n0_;(try clear hb);(try clear hb2);(try clear hk);(try clear hi)))
  go_ret
  exact ⟨by first|rfl|(simp [errW_none,errW_some] <;> rfl)|(simp [*,errW_none,errW_some] <;> rfl),by repeat (first|(with_reducible first|exact HB.out|apply below_alloc|apply pw_below_drewN|apply below_drew1)|exact HB.out)⟩
 ·
  rw [if_neg c4] at H
  have c4b0:decide (100 < (a0.size:Int))=false:=decide_eq_false c4
  have c4b1:decide (100 < a0.size)=false:=decide_eq_false (by omega)
  clear c4
  replace H:=Option.bind_eq_some_iff.mp H
  obtain ⟨⟨t512,t513,t514⟩,A70,H⟩:=H
  replace H:((mosaiclaw04_awake.f k).bind fun t516=>(if t516=true then ((prng_Block.f k a0 a1).bind fun t517=>((mosaicref04_Block.f k a0 a1).bind fun t518=>(if t517.toList=t518.toList then (mosaiclaw04_PrngBlocks.j0 k a0 a2 (false != (decide ((a0.size:Int) > 64))) t512 t513 t514) else (mosaiclaw04_PrngBlocks.j0 k a0 a2 true t512 t513 t514)))) else (mosaiclaw04_PrngBlocks.j0 k a0 a2 true t512 t513 t514)))=some true:=H
  have A7:=Aside0.mk A70
  clear A70
  have HC8:=Aside0.mk H
  clear H
  go_enter Try.func16,Try.ntmps16
  go_upto_region 4 with (first|((with_reducible refine gate_callee (f:=62) rfl ?_);refine goesL_ (some 16) rfl rfl Try.func62 (by kernel_rfl) rfl #[.string a0] rfl (by (try simp only [List.map_toArray,List.map_cons,List.map_nil]);first|done|rfl|(simp only [List.length_drop,List.length_take];rfl)) ?_;(with_reducible refine (prng_New.calls a0 t512 t513 t514 w _ ?side1 A7.out).mono ?_);(case side1=>repeat (first|(with_reducible first|exact HB.out|apply below_alloc|apply pw_below_drewN|apply below_drew1)|exact HB.out));rintro e w9 ⟨g515,rfl,hi,hb,hb2⟩;refine ⟨_,rfl,?_⟩;have n0_:=Aside0.mk (hb);have n1_:=Aside0.mk (hi);clear HB;have HB:=n0_;have HI515:=n1_;clear n0_ n1_;(try clear hb);(try clear hb2);(try clear hk);(try clear hi)))
  (try simp only [Act.put,List.setIfInBounds_toArray,List.set_cons_zero,List.set_cons_succ])
  go_cut [35] (fun v35 wc=>∃ (kq:Nat) (x35_7:Bool),v35=.bool x35_7∧Aside0 (mosaiclaw04_PrngBlocks.j0 kq a0 a2 x35_7 t512 t513 t514=some true)∧Aside0 (kq≤k)∧Aside0 (IsS130 w wc g515 t512 t513 t514)∧Aside0 (Below w.heap.size w wc))
  case first =>
   have H:=HC8.out
   clear HC8
   replace H:=Option.bind_eq_some_iff.mp H
   obtain ⟨t516,A100,H⟩:=H
   replace H:(if t516=true then ((prng_Block.f k a0 a1).bind fun t517=>((mosaicref04_Block.f k a0 a1).bind fun t518=>(if t517.toList=t518.toList then (mosaiclaw04_PrngBlocks.j0 k a0 a2 (false != (decide ((a0.size:Int) > 64))) t512 t513 t514) else (mosaiclaw04_PrngBlocks.j0 k a0 a2 true t512 t513 t514)))) else (mosaiclaw04_PrngBlocks.j0 k a0 a2 true t512 t513 t514))=some true:=H
   have A10:=Aside0.mk A100
   clear A100
   by_cases c11:t516=true
   ·
    subst c11
    have H1:((prng_Block.f k a0 a1).bind fun t517=>((mosaicref04_Block.f k a0 a1).bind fun t518=>(if t517.toList=t518.toList then (mosaiclaw04_PrngBlocks.j0 k a0 a2 (false != (decide ((a0.size:Int) > 64))) t512 t513 t514) else (mosaiclaw04_PrngBlocks.j0 k a0 a2 true t512 t513 t514))))=some true:=by rw [if_pos rfl] at H;exact H
    clear H
    have H:=H1
    clear H1
    replace H:=Option.bind_eq_some_iff.mp H
    obtain ⟨t517,A120,H⟩:=H
    replace H:((mosaicref04_Block.f k a0 a1).bind fun t518=>(if t517.toList=t518.toList then (mosaiclaw04_PrngBlocks.j0 k a0 a2 (false != (decide ((a0.size:Int) > 64))) t512 t513 t514) else (mosaiclaw04_PrngBlocks.j0 k a0 a2 true t512 t513 t514)))=some true:=H
    have A12:=Aside0.mk A120
    clear A120
    replace H:=Option.bind_eq_some_iff.mp H
    obtain ⟨t518,A130,H⟩:=H
    replace H:(if t517.toList=t518.toList then (mosaiclaw04_PrngBlocks.j0 k a0 a2 (false != (decide ((a0.size:Int) > 64))) t512 t513 t514) else (mosaiclaw04_PrngBlocks.j0 k a0 a2 true t512 t513 t514))=some true:=H
    have A13:=Aside0.mk A130
    clear A130
    by_cases c14:t517.toList=t518.toList
    ·
     rw [if_pos c14] at H
     have c14b0:(t517.toList == t518.toList)=true:=beq_iff_eq.mpr c14
     have c14b1:(t517.toList != t518.toList)=false:=bne_eq_false_iff_eq.mpr c14
     clear c14
     (first|rw [c14b0]|(simp only [i64_w,i32_w];rw [c14b0])|skip)
     have H':=Aside0.mk H
     clear H
     go_wp2_with (first|((with_reducible refine gate_callee (f:=59) rfl ?_);refine goesL_ (some 17) rfl rfl Try.func59 (by kernel_rfl) rfl #[] rfl (by (try simp only [List.map_toArray,List.map_cons,List.map_nil]);first|done|rfl|(simp only [List.length_drop,List.length_take];rfl)) ?_;(with_reducible refine (mosaiclaw04_awake.calls k  true _ A10.out).mono ?_);rintro e w15 ⟨rfl,hb⟩;refine ⟨_,rfl,?_⟩;have n0_:=Aside0.mk (IsS130.below (by repeat (first|(with_reducible first|exact HI515.out|apply IsS130.alloc|apply IsS130.drewN|apply IsS130.drew|apply IsS130.set_0|apply IsS130.set_1|apply IsS130.set_2)|exact HI515.out)) hb);have n1_:=Aside0.mk (below_step (by repeat (first|(with_reducible first|exact HB.out|apply below_alloc|apply pw_below_drewN|apply below_drew1|refine below_set ?_ (IsS130.ge HI515.out))|exact HB.out)) hb);clear HI515;clear HB;have HI515:=n0_;have HB:=n1_;clear n0_ n1_;(try clear hb);(try clear hb2);(try clear hk);(try clear hi))|(go_at_call 64;(with_reducible refine (prng_Block.calls k a0 a1 t517 _ A12.out).mono ?_);rintro e w16 ⟨rfl,hb⟩;have n0_:=Aside0.mk (IsS130.below (by repeat (first|(with_reducible first|exact HI515.out|apply IsS130.alloc|apply IsS130.drewN|apply IsS130.drew|apply IsS130.set_0|apply IsS130.set_1|apply IsS130.set_2)|exact HI515.out)) hb);have n1_:=Aside0.mk (below_step (by repeat (first|(with_reducible first|exact HB.out|apply below_alloc|apply pw_below_drewN|apply below_drew1|refine below_set ?_ (IsS130.ge HI515.out))|exact HB.out)) hb);clear HI515;clear HB;have HI515:=n0_;have HB:=n1_;clear n0_ n1_;(try clear hb);(try clear hb2);(try clear hk);(try clear hi))|(go_at_call 65;(with_reducible refine (mosaicref04_Block.calls k a0 a1 t518 _ A13.out).mono ?_);rintro e w17 ⟨rfl,hb⟩;have n0_:=Aside0.mk (IsS130.below (by repeat (first|(with_reducible first|exact HI515.out|apply IsS130.alloc|apply IsS130.drewN|apply IsS130.drew|apply IsS130.set_0|apply IsS130.set_1|apply IsS130.set_2)|exact HI515.out)) hb);have n1_:=Aside0.mk (below_step (by repeat (first|(with_reducible first|exact HB.out|apply below_alloc|apply pw_below_drewN|apply below_drew1|refine below_set ?_ (IsS130.ge HI515.out))|exact HB.out)) hb);clear HI515;clear HB;have HI515:=n0_;have HB:=n1_;clear n0_ n1_;(try clear hb);(try clear hb2);(try clear hk);(try clear hi)))
     go_meet
     case rel=>exact ⟨_,((false != (decide ((a0.size:Int) > 64)))),(by first|rfl|(simp;done)|(simp [*];done)),H',⟨by first|omega|exact Nat.le_refl _⟩,⟨by repeat (first|(with_reducible first|exact HI515.out|apply IsS130.alloc|apply IsS130.drewN|apply IsS130.drew|apply IsS130.set_0|apply IsS130.set_1|apply IsS130.set_2)|exact HI515.out)⟩,⟨by repeat (first|(with_reducible first|exact HB.out|apply below_alloc|apply pw_below_drewN|apply below_drew1|refine below_set ?_ (IsS130.ge HI515.out))|exact HB.out)⟩⟩
    ·
     rw [if_neg c14] at H
     have c14b0:(t517.toList == t518.toList)=false:=beq_eq_false_iff_ne.mpr c14
     have c14b1:(t517.toList != t518.toList)=true:=bne_iff_ne.mpr c14
     (first|rw [c14b0]|(simp only [i64_w,i32_w];rw [c14b0])|skip)
     have H':=Aside0.mk H
     clear H
     go_wp2_with (first|((with_reducible refine gate_callee (f:=59) rfl ?_);refine goesL_ (some 17) rfl rfl Try.func59 (by kernel_rfl) rfl #[] rfl (by (try simp only [List.map_toArray,List.map_cons,List.map_nil]);first|done|rfl|(simp only [List.length_drop,List.length_take];rfl)) ?_;(with_reducible refine (mosaiclaw04_awake.calls k  true _ A10.out).mono ?_);rintro e w18 ⟨rfl,hb⟩;refine ⟨_,rfl,?_⟩;have n0_:=Aside0.mk (IsS130.below (by repeat (first|(with_reducible first|exact HI515.out|apply IsS130.alloc|apply IsS130.drewN|apply IsS130.drew|apply IsS130.set_0|apply IsS130.set_1|apply IsS130.set_2)|exact HI515.out)) hb);have n1_:=Aside0.mk (below_step (by repeat (first|(with_reducible first|exact HB.out|apply below_alloc|apply pw_below_drewN|apply below_drew1|refine below_set ?_ (IsS130.ge HI515.out))|exact HB.out)) hb);clear HI515;clear HB;have HI515:=n0_;have HB:=n1_;clear n0_ n1_;(try clear hb);(try clear hb2);(try clear hk);(try clear hi))|(go_at_call 64;(with_reducible refine (prng_Block.calls k a0 a1 t517 _ A12.out).mono ?_);rintro e w19 ⟨rfl,hb⟩;have n0_:=Aside0.mk (IsS130.below (by repeat (first|(with_reducible first|exact HI515.out|apply IsS130.alloc|apply IsS130.drewN|apply IsS130.drew|apply IsS130.set_0|apply IsS130.set_1|apply IsS130.set_2)|exact HI515.out)) hb);have n1_:=Aside0.mk (below_step (by repeat (first|(with_reducible first|exact HB.out|apply below_alloc|apply pw_below_drewN|apply below_drew1|refine below_set ?_ (IsS130.ge HI515.out))|exact HB.out)) hb);clear HI515;clear HB;have HI515:=n0_;have HB:=n1_;clear n0_ n1_;(try clear hb);(try clear hb2);(try clear hk);(try clear hi))|(go_at_call 65;(with_reducible refine (mosaicref04_Block.calls k a0 a1 t518 _ A13.out).mono ?_);rintro e w20 ⟨rfl,hb⟩;have n0_:=Aside0.mk (IsS130.below (by repeat (first|(with_reducible first|exact HI515.out|apply IsS130.alloc|apply IsS130.drewN|apply IsS130.drew|apply IsS130.set_0|apply IsS130.set_1|apply IsS130.set_2)|exact HI515.out)) hb);have n1_:=Aside0.mk (below_step (by repeat (first|(with_reducible first|exact HB.out|apply below_alloc|apply pw_below_drewN|apply below_drew1|refine below_set ?_ (IsS130.ge HI515.out))|exact HB.out)) hb);clear HI515;clear HB;have HI515:=n0_;have HB:=n1_;clear n0_ n1_;(try clear hb);(try clear hb2);(try clear hk);(try clear hi)))
     go_meet
     case rel=>exact ⟨_,(true),(by first|rfl|(simp;done)|(simp [*];done)),H',⟨by first|omega|exact Nat.le_refl _⟩,⟨by repeat (first|(with_reducible first|exact HI515.out|apply IsS130.alloc|apply IsS130.drewN|apply IsS130.drew|apply IsS130.set_0|apply IsS130.set_1|apply IsS130.set_2)|exact HI515.out)⟩,⟨by repeat (first|(with_reducible first|exact HB.out|apply below_alloc|apply pw_below_drewN|apply below_drew1|refine below_set ?_ (IsS130.ge HI515.out))|exact HB.out)⟩⟩
   ·
    replace c11:=Bool.eq_false_iff.mpr c11
    subst c11
    have H1:(mosaiclaw04_PrngBlocks.j0 k a0 a2 true t512 t513 t514)=some true:=by rw [if_neg (show ¬ (false=true) by decide)] at H;exact H
    clear H
    have H:=H1
    clear H1
    have H':=Aside0.mk H
    clear H
    go_wp2_with (first|((with_reducible refine gate_callee (f:=59) rfl ?_);refine goesL_ (some 17) rfl rfl Try.func59 (by kernel_rfl) rfl #[] rfl (by (try simp only [List.map_toArray,List.map_cons,List.map_nil]);first|done|rfl|(simp only [List.length_drop,List.length_take];rfl)) ?_;(with_reducible refine (mosaiclaw04_awake.calls k  false _ A10.out).mono ?_);rintro e w21 ⟨rfl,hb⟩;refine ⟨_,rfl,?_⟩;have n0_:=Aside0.mk (IsS130.below (by repeat (first|(with_reducible first|exact HI515.out|apply IsS130.alloc|apply IsS130.drewN|apply IsS130.drew|apply IsS130.set_0|apply IsS130.set_1|apply IsS130.set_2)|exact HI515.out)) hb);have n1_:=Aside0.mk (below_step (by repeat (first|(with_reducible first|exact HB.out|apply below_alloc|apply pw_below_drewN|apply below_drew1|refine below_set ?_ (IsS130.ge HI515.out))|exact HB.out)) hb);clear HI515;clear HB;have HI515:=n0_;have HB:=n1_;clear n0_ n1_;(try clear hb);(try clear hb2);(try clear hk);(try clear hi)))
    go_meet
    case rel=>exact ⟨_,(true),(by first|rfl|(simp;done)|(simp [*];done)),H',⟨by first|omega|exact Nat.le_refl _⟩,⟨by repeat (first|(with_reducible first|exact HI515.out|apply IsS130.alloc|apply IsS130.drewN|apply IsS130.drew|apply IsS130.set_0|apply IsS130.set_1|apply IsS130.set_2)|exact HI515.out)⟩,⟨by repeat (first|(with_reducible first|exact HB.out|apply below_alloc|apply pw_below_drewN|apply below_drew1|refine below_set ?_ (IsS130.ge HI515.out))|exact HB.out)⟩⟩
  case rest =>
   clear HC8
   try clear c1
   try clear p2
   try clear c4
   try clear c4b0
   try clear c4b1
   try clear c5
   try clear c6
   try clear c11
   try clear c14
   try clear c14b0
   try clear c14b1
   try clear c16
   obtain ⟨kq,x35_7,rfl,HA,HJ7,HI515,HB⟩:=hcut
   cases kq with
   | zero=>exact absurd HA.out (by simp [mosaiclaw04_PrngBlocks.j0])
   | succ kj7 =>
    have H:=HA.out
    clear HA
    simp only [mosaiclaw04_PrngBlocks.j0] at H
    by_cases c22:x35_7=true
    ·
     subst c22
     have H1:(some false)=some true:=by rw [if_pos rfl] at H;exact H
     clear H
     have H:=H1
     clear H1
     exact absurd (Option.some.inj H) (by simp)
    ·
     replace c22:=Bool.eq_false_iff.mpr c22
     subst c22
     have H1:(mosaiclaw04_PrngBlocks.l0 kj7 a2 0 t512 t513 t514 a0 0)=some true:=by rw [if_neg (show ¬ (false=true) by decide)] at H;exact H
     clear H
     have H:=H1
     clear H1
     have H':=Aside0.mk H
     clear H
     go_wp2_with (first|((with_reducible refine gate_dst (N:=8) rfl ?_);(try (refine gate_guard (by rfl) ?_;dsimp only));refine box_event ?hg (N:=8) ?hd (cs:=#[.string (⟨#[]⟩:ByteArray),.int .i64 0]) (t:=83) ?hr ?_;(case hd=>rfl);(case hg=>rfl);(case hr=>first|(go_simp;done)|(go_simp;rfl));intro gb519 hg w23 hbox hb;have n0_:=Aside0.mk (IsS130.below (by repeat (first|(with_reducible first|exact HI515.out|apply IsS130.alloc|apply IsS130.drewN|apply IsS130.drew|apply IsS130.set_0|apply IsS130.set_1|apply IsS130.set_2)|exact HI515.out)) hb);have n1_:=Aside0.mk (below_step (by repeat (first|(with_reducible first|exact HB.out|apply below_alloc|apply pw_below_drewN|apply below_drew1|refine below_set ?_ (IsS130.ge HI515.out))|exact HB.out)) hb);have n2_:=Aside0.mk (hbox);have n3_:=Aside0.mk ((by rw [hg];exact (below_size (by repeat (first|(with_reducible first|exact HB.out|apply below_alloc|apply pw_below_drewN|apply below_drew1|refine below_set ?_ (IsS130.ge HI515.out))|exact HB.out))):w.heap.size≤gb519));have n4_:=Aside0.mk ((by rw [hg];exact (below_size (by repeat (first|(with_reducible first|exact HB.out|apply below_alloc|apply pw_below_drewN|apply below_drew1|refine below_set ?_ (IsS130.ge HI515.out))|exact HB.out))):w.heap.size≤gb519));have n5_:=Aside0.mk ((by rw [hg];exact Nat.ne_of_lt (IsS130.lt (show IsS130 w _ g515 t512 t513 t514 from by repeat (first|(with_reducible first|exact HI515.out|apply IsS130.alloc|apply IsS130.drewN|apply IsS130.drew|apply IsS130.set_0|apply IsS130.set_1|apply IsS130.set_2)|exact HI515.out))):g515≠gb519));have n6_:=Aside0.mk ((by rw [hg];exact Nat.ne_of_gt (IsS130.lt (show IsS130 w _ g515 t512 t513 t514 from by repeat (first|(with_reducible first|exact HI515.out|apply IsS130.alloc|apply IsS130.drewN|apply IsS130.drew|apply IsS130.set_0|apply IsS130.set_1|apply IsS130.set_2)|exact HI515.out))):gb519≠g515));clear HI515;clear HB;have HI515:=n0_;have HB:=n1_;have BK519:=n2_;have GW519:=n3_;have GE519:=n4_;have NB515_519:=n5_;have NB519_515:=n6_;clear n0_ n1_ n2_ n3_ n4_ n5_ n6_;clear hb hbox hg;have hnb24:=NB519_515.out;have hnc24:=NB515_519.out;have hcz25_0:w23.cell? ⟨gb519,0,none⟩=some (.string (⟨#[]⟩:ByteArray)):=(blk_cell BK519.out 0).trans rfl;have hcz25_1:w23.cell? ⟨gb519,1,none⟩=some (.int .i64 0):=(blk_cell BK519.out 1).trans rfl;have hfz25_0:=blk_frozen BK519.out 0;have hfz25_1:=blk_frozen BK519.out 1))
     go_loopg [9] kj7 (fun kq v9 w'=>∃ (x9_2:Int) (x516000_2:ByteArray) (x516001_2:Int) (x516002_2:ByteArray) (x520000_2:ByteArray) (x520001_2:Int),v9=.int .i64 x9_2∧Aside0 (mosaiclaw04_PrngBlocks.l0 kq a2 x9_2 x516000_2 x516001_2 x516002_2 x520000_2 x520001_2=some true)∧Aside0 (kq≤kj7)∧Aside0 (w'.heap[gb519]?=some (.cells #[.string x520000_2,.int .i64 x520001_2] 83 (0,0)))∧Aside0 (IsS130 w w' g515 x516000_2 x516001_2 x516002_2)∧Aside0 (Below w.heap.size w w'))
     case atStart=>exact ⟨(0),(t512),(t513),(t514),(a0),(0),(by first|rfl|(simp;done)|(simp [*];done)),H',⟨Nat.le_refl _⟩,⟨by (with_reducible repeat (first|refine blk_drewN ?_ _|refine blk_drew ?_|refine blk_alloc ?_ _));refine blk_put (cs:=#[.string a0,.int .i64 0]) ?_ 1 _ rfl;(with_reducible repeat (first|refine blk_drewN ?_ _|refine blk_drew ?_|refine blk_alloc ?_ _));refine blk_put (cs:=#[.string (⟨#[]⟩:ByteArray),.int .i64 0]) ?_ 0 _ rfl;(with_reducible repeat (first|refine blk_drewN ?_ _|refine blk_drew ?_|refine blk_alloc ?_ _));exact BK519.out⟩,⟨by repeat (first|(with_reducible first|exact HI515.out|apply IsS130.alloc|apply IsS130.drewN|apply IsS130.drew|apply IsS130.set_0|apply IsS130.set_1|apply IsS130.set_2|refine IsS130.far ?_ NB515_519.out _)|exact HI515.out)⟩,⟨by repeat (first|(with_reducible first|exact HB.out|apply below_alloc|apply pw_below_drewN|apply below_drew1|refine below_set ?_ (IsS130.ge HI515.out)|refine below_set ?_ GE519.out)|exact HB.out)⟩⟩
     case round =>
      clear H'
      try clear c1
      try clear c2
      try clear p2
      try clear c4
      try clear c4b0
      try clear c4b1
      try clear c5
      try clear c6
      try clear c11
      try clear c14
      try clear c14b0
      try clear c14b1
      try clear c16
      try clear c22
      try clear c24
      try clear hcz25_0
      try clear hcz25_1
      try clear hfz25_0
      try clear hfz25_1
      try clear p2
      obtain ⟨x9_2,x516000_2,x516001_2,x516002_2,x520000_2,x520001_2,rfl,HA,HK2,BK519,HI515,HB⟩:=hrel
      cases gk with
      | zero=>exact absurd HA.out (by simp [mosaiclaw04_PrngBlocks.l0])
      | succ k2 =>
       have H:=HA.out
       clear HA
       simp only [mosaiclaw04_PrngBlocks.l0] at H
       have HC26:=Aside0.mk H
       clear H
       go_upto_region 8 with (fail)
       go_cut [48] (fun v48 wc=>∃ (kq:Nat) (x48_25:Bool),v48=.bool x48_25∧Aside0 (mosaiclaw04_PrngBlocks.j2 kq a2 x9_2 x48_25 x516000_2 x516001_2 x516002_2 x520000_2 x520001_2=some true)∧Aside0 (kq≤k2)∧Aside0 (wc.heap[gb519]?=some (.cells #[.string x520000_2,.int .i64 x520001_2] 83 (0,0)))∧Aside0 (IsS130 w wc g515 x516000_2 x516001_2 x516002_2)∧Aside0 (Below w.heap.size w wc))
       case first =>
        have H:=HC26.out
        clear HC26
        by_cases c27:x9_2 < a2
        ·
         rw [if_pos c27] at H
         have c27b0:decide (x9_2 < a2)=true:=decide_eq_true c27
         clear c27
         (first|rw [c27b0]|(simp only [i64_w,i32_w];rw [c27b0])|skip)
         have H':=Aside0.mk H
         clear H
         go_wp2
         go_meet
         case rel=>exact ⟨_,(decide (x9_2 < 40)),(by first|rfl|(simp;done)|(simp [*];done)),H',⟨by have:=HJ7.out;have:=HK2.out;first|omega|exact Nat.le_refl _⟩,⟨by (with_reducible repeat (first|refine blk_drewN ?_ _|refine blk_drew ?_|refine blk_alloc ?_ _));exact BK519.out⟩,⟨by repeat (first|(with_reducible first|exact HI515.out|apply IsS130.alloc|apply IsS130.drewN|apply IsS130.drew|apply IsS130.set_0|apply IsS130.set_1|apply IsS130.set_2|refine IsS130.far ?_ NB515_519.out _)|exact HI515.out)⟩,⟨by repeat (first|(with_reducible first|exact HB.out|apply below_alloc|apply pw_below_drewN|apply below_drew1|refine below_set ?_ (IsS130.ge HI515.out)|refine below_set ?_ GE519.out)|exact HB.out)⟩⟩
        ·
         rw [if_neg c27] at H
         have c27b0:decide (x9_2 < a2)=false:=decide_eq_false c27
         clear c27
         (first|rw [c27b0]|(simp only [i64_w,i32_w];rw [c27b0])|skip)
         have H':=Aside0.mk H
         clear H
         go_wp2
         go_meet
         case rel=>exact ⟨_,(false),(by first|rfl|(simp;done)|(simp [*];done)),H',⟨by have:=HJ7.out;have:=HK2.out;first|omega|exact Nat.le_refl _⟩,⟨by (with_reducible repeat (first|refine blk_drewN ?_ _|refine blk_drew ?_|refine blk_alloc ?_ _));exact BK519.out⟩,⟨by repeat (first|(with_reducible first|exact HI515.out|apply IsS130.alloc|apply IsS130.drewN|apply IsS130.drew|apply IsS130.set_0|apply IsS130.set_1|apply IsS130.set_2|refine IsS130.far ?_ NB515_519.out _)|exact HI515.out)⟩,⟨by repeat (first|(with_reducible first|exact HB.out|apply below_alloc|apply pw_below_drewN|apply below_drew1|refine below_set ?_ (IsS130.ge HI515.out)|refine below_set ?_ GE519.out)|exact HB.out)⟩⟩
       case rest =>
        clear HC26
        try clear c1
        try clear c2
        try clear p2
        try clear c4
        try clear c4b0
        try clear c4b1
        try clear c5
        try clear c6
        try clear c11
        try clear c14
        try clear c14b0
        try clear c14b1
        try clear c16
        try clear c22
        try clear c24
        try clear c27
        try clear c27b0
        try clear hcz25_0
        try clear hcz25_1
        try clear hfz25_0
        try clear hfz25_1
        try clear p2
        obtain ⟨kq,x48_25,rfl,HA,HJ25,BK519,HI515,HB⟩:=hcut
        cases kq with
        | zero=>exact absurd HA.out (by simp [mosaiclaw04_PrngBlocks.j2])
        | succ kj25 =>
         have H:=HA.out
         clear HA
         simp only [mosaiclaw04_PrngBlocks.j2] at H
         by_cases c28:x48_25=true
         ·
          subst c28
          have H1:((mosaicref04_Gen_Word.f kj25 x520000_2 x520001_2).bind fun bt520=>((prng_Gen_Word.f kj25 x516000_2 x516001_2 x516002_2).bind fun bt524=>(if (wrap64 (bt524.1))=bt520.2.2 then ((prng_Gen_Used.f bt524.2.1 bt524.2.2.1 bt524.2.2.2).bind fun bt528=>(if bt528.1=(wrap64 (x9_2+1)) then (mosaiclaw04_PrngBlocks.l0 kj25 a2 (wrap64 (x9_2+1)) bt528.2.1 bt528.2.2.1 bt528.2.2.2 bt520.1 bt520.2.1) else (some false))) else (some false))))=some true:=by rw [if_pos rfl] at H;exact H
          clear H
          have H:=H1
          clear H1
          replace H:=Option.bind_eq_some_iff.mp H
          obtain ⟨⟨t520,t521,t522⟩,A290,H⟩:=H
          replace H:((prng_Gen_Word.f kj25 x516000_2 x516001_2 x516002_2).bind fun bt524=>(if (wrap64 (bt524.1))=t522 then ((prng_Gen_Used.f bt524.2.1 bt524.2.2.1 bt524.2.2.2).bind fun bt528=>(if bt528.1=(wrap64 (x9_2+1)) then (mosaiclaw04_PrngBlocks.l0 kj25 a2 (wrap64 (x9_2+1)) bt528.2.1 bt528.2.2.1 bt528.2.2.2 t520 t521) else (some false))) else (some false)))=some true:=H
          have A29:=Aside0.mk A290
          clear A290
          replace H:=Option.bind_eq_some_iff.mp H
          obtain ⟨⟨t524,t525,t526,t527⟩,A300,H⟩:=H
          replace H:(if (wrap64 (t524))=t522 then ((prng_Gen_Used.f t525 t526 t527).bind fun bt528=>(if bt528.1=(wrap64 (x9_2+1)) then (mosaiclaw04_PrngBlocks.l0 kj25 a2 (wrap64 (x9_2+1)) bt528.2.1 bt528.2.2.1 bt528.2.2.2 t520 t521) else (some false))) else (some false))=some true:=H
          have A30:=Aside0.mk A300
          clear A300
          by_cases c31:(wrap64 (t524))=t522
          ·
           rw [if_pos c31] at H
           have c31b0:((wrap64 (t524)) == t522)=true:=beq_iff_eq.mpr c31
           have c31b1:((wrap64 (t524)) != t522)=false:=bne_eq_false_iff_eq.mpr c31
           clear c31
           replace H:=Option.bind_eq_some_iff.mp H
           obtain ⟨⟨t528,t529,t530,t531⟩,A320,H⟩:=H
           replace H:(if t528=(wrap64 (x9_2+1)) then (mosaiclaw04_PrngBlocks.l0 kj25 a2 (wrap64 (x9_2+1)) t529 t530 t531 t520 t521) else (some false))=some true:=H
           have A32:=Aside0.mk A320
           clear A320
           by_cases c33:t528=(wrap64 (x9_2+1))
           ·
            rw [if_pos c33] at H
            have c33b0:(t528 == (wrap64 (x9_2+1)))=true:=beq_iff_eq.mpr c33
            have c33b1:(t528 != (wrap64 (x9_2+1)))=false:=bne_eq_false_iff_eq.mpr c33
            clear c33
            have H':=Aside0.mk H
            clear H
            have hnb34:=NB519_515.out
            have hnc34:=NB515_519.out
            have hcz35_0:wc.cell? ⟨gb519,0,none⟩=some (.string x520000_2):=(blk_cell BK519.out 0).trans rfl
            have hcz35_1:wc.cell? ⟨gb519,1,none⟩=some (.int .i64 x520001_2):=(blk_cell BK519.out 1).trans rfl
            have hfz35_0:=blk_frozen BK519.out 0
            have hfz35_1:=blk_frozen BK519.out 1
            try go_wp2_with (first|((with_reducible refine gate_callee (f:=66) rfl ?_);refine goesL_ (some 52) rfl rfl Try.func66 (by kernel_rfl) rfl #[.agg #[.string x520000_2,.int .i64 x520001_2]] rfl (by (try simp only [List.map_toArray,List.map_cons,List.map_nil]);first|done|rfl|(simp only [List.length_drop,List.length_take];rfl)) ?_;(with_reducible refine (mosaicref04_Gen_Word.calls kj25 x520000_2 x520001_2 t520 t521 t522 _ A29.out).mono ?_);rintro e w36 ⟨rfl,hb⟩;refine ⟨_,rfl,?_⟩;have n0_:=Aside0.mk (blk_below (g:=gb519) (o:=.cells #[.string x520000_2,.int .i64 x520001_2] 83 (0,0)) (by (with_reducible repeat (first|refine blk_drewN ?_ _|refine blk_drew ?_|refine blk_alloc ?_ _));exact BK519.out) hb);have n1_:=Aside0.mk (IsS130.below (by repeat (first|(with_reducible first|exact HI515.out|apply IsS130.alloc|apply IsS130.drewN|apply IsS130.drew|apply IsS130.set_0|apply IsS130.set_1|apply IsS130.set_2|refine IsS130.far ?_ NB515_519.out _)|exact HI515.out)) hb);have n2_:=Aside0.mk (below_step (by repeat (first|(with_reducible first|exact HB.out|apply below_alloc|apply pw_below_drewN|apply below_drew1|refine below_set ?_ (IsS130.ge HI515.out)|refine below_set ?_ GE519.out)|exact HB.out)) hb);clear BK519;clear HI515;clear HB;have BK519:=n0_;have HI515:=n1_;have HB:=n2_;clear n0_ n1_ n2_;(try clear hb);(try clear hb2);(try clear hk);(try clear hi))|((with_reducible refine gate_dst (N:=10) rfl ?_);(try (refine gate_guard (by rfl) ?_;dsimp only));refine box_event ?hg (N:=10) ?hd (cs:=#[.string (⟨#[]⟩:ByteArray),.int .i64 0,.int .i64 0]) (t:=85) ?hr ?_;(case hd=>rfl);(case hg=>rfl);(case hr=>first|(go_simp;done)|(go_simp;rfl));intro gb523 hg w37 hbox hb;have n0_:=Aside0.mk (blk_below (g:=gb519) (o:=.cells #[.string x520000_2,.int .i64 x520001_2] 83 (0,0)) (by (with_reducible repeat (first|refine blk_drewN ?_ _|refine blk_drew ?_|refine blk_alloc ?_ _));exact BK519.out) hb);have n1_:=Aside0.mk (IsS130.below (by repeat (first|(with_reducible first|exact HI515.out|apply IsS130.alloc|apply IsS130.drewN|apply IsS130.drew|apply IsS130.set_0|apply IsS130.set_1|apply IsS130.set_2|refine IsS130.far ?_ NB515_519.out _)|exact HI515.out)) hb);have n2_:=Aside0.mk (below_step (by repeat (first|(with_reducible first|exact HB.out|apply below_alloc|apply pw_below_drewN|apply below_drew1|refine below_set ?_ (IsS130.ge HI515.out)|refine below_set ?_ GE519.out)|exact HB.out)) hb);have n3_:=Aside0.mk (hbox);have n4_:=Aside0.mk ((by rw [hg];exact (below_size (by repeat (first|(with_reducible first|exact HB.out|apply below_alloc|apply pw_below_drewN|apply below_drew1|refine below_set ?_ (IsS130.ge HI515.out)|refine below_set ?_ GE519.out)|exact HB.out))):w.heap.size≤gb523));have n5_:=Aside0.mk ((by rw [hg];exact (below_size (by repeat (first|(with_reducible first|exact HB.out|apply below_alloc|apply pw_below_drewN|apply below_drew1|refine below_set ?_ (IsS130.ge HI515.out)|refine below_set ?_ GE519.out)|exact HB.out))):w.heap.size≤gb523));have n6_:=Aside0.mk ((by rw [hg];exact Nat.ne_of_lt (blk_lt (g:=gb519) (o:=.cells #[.string x520000_2,.int .i64 x520001_2] 83 (0,0)) (by (with_reducible repeat (first|refine blk_drewN ?_ _|refine blk_drew ?_|refine blk_alloc ?_ _));exact BK519.out)):gb519≠gb523));have n7_:=Aside0.mk ((by rw [hg];exact Nat.ne_of_gt (blk_lt (g:=gb519) (o:=.cells #[.string x520000_2,.int .i64 x520001_2] 83 (0,0)) (by (with_reducible repeat (first|refine blk_drewN ?_ _|refine blk_drew ?_|refine blk_alloc ?_ _));exact BK519.out)):gb523≠gb519));have n8_:=Aside0.mk ((by rw [hg];exact Nat.ne_of_lt (IsS130.lt (show IsS130 w _ g515 x516000_2 x516001_2 x516002_2 from by repeat (first|(with_reducible first|exact HI515.out|apply IsS130.alloc|apply IsS130.drewN|apply IsS130.drew|apply IsS130.set_0|apply IsS130.set_1|apply IsS130.set_2|refine IsS130.far ?_ NB515_519.out _)|exact HI515.out))):g515≠gb523));have n9_:=Aside0.mk ((by rw [hg];exact Nat.ne_of_gt (IsS130.lt (show IsS130 w _ g515 x516000_2 x516001_2 x516002_2 from by repeat (first|(with_reducible first|exact HI515.out|apply IsS130.alloc|apply IsS130.drewN|apply IsS130.drew|apply IsS130.set_0|apply IsS130.set_1|apply IsS130.set_2|refine IsS130.far ?_ NB515_519.out _)|exact HI515.out))):gb523≠g515));clear BK519;clear HI515;clear HB;have BK519:=n0_;have HI515:=n1_;have HB:=n2_;have BK523:=n3_;have GW523:=n4_;have GE523:=n5_;have NB519_523:=n6_;have NB523_519:=n7_;have NB515_523:=n8_;have NB523_515:=n9_;clear n0_ n1_ n2_ n3_ n4_ n5_ n6_ n7_ n8_ n9_;clear hb hbox hg;have hnb38:=NB523_519.out;have hnc38:=NB519_523.out;have hnb39:=NB523_515.out;have hnc39:=NB515_523.out;have hcz40_0:w37.cell? ⟨gb523,0,none⟩=some (.string (⟨#[]⟩:ByteArray)):=(blk_cell BK523.out 0).trans rfl;have hcz40_1:w37.cell? ⟨gb523,1,none⟩=some (.int .i64 0):=(blk_cell BK523.out 1).trans rfl;have hcz40_2:w37.cell? ⟨gb523,2,none⟩=some (.int .i64 0):=(blk_cell BK523.out 2).trans rfl;have hfz40_0:=blk_frozen BK523.out 0;have hfz40_1:=blk_frozen BK523.out 1;have hfz40_2:=blk_frozen BK523.out 2;have hcz41_0:w37.cell? ⟨gb519,0,none⟩=some (.string x520000_2):=(blk_cell BK519.out 0).trans rfl;have hcz41_1:w37.cell? ⟨gb519,1,none⟩=some (.int .i64 x520001_2):=(blk_cell BK519.out 1).trans rfl;have hfz41_0:=blk_frozen BK519.out 0;have hfz41_1:=blk_frozen BK519.out 1))
            have n0_:Aside0 ((((((w37.setCell ⟨gb523,0,none⟩ (.string t520)).setCell ⟨gb523,1,none⟩ (.int .i64 t521)).setCell ⟨gb523,2,none⟩ (.int .i64 t522)).setCell ⟨gb519,0,none⟩ (.string t520)).setCell ⟨gb519,1,none⟩ (.int .i64 t521)).heap[gb519]?=some (.cells #[.string t520,.int .i64 t521] 83 (0,0))):=⟨by (with_reducible repeat (first|refine blk_drewN ?_ _|refine blk_drew ?_|refine blk_alloc ?_ _));refine blk_put (cs:=#[.string t520,.int .i64 x520001_2]) ?_ 1 _ rfl;(with_reducible repeat (first|refine blk_drewN ?_ _|refine blk_drew ?_|refine blk_alloc ?_ _));refine blk_put (cs:=#[.string x520000_2,.int .i64 x520001_2]) ?_ 0 _ rfl;(with_reducible repeat (first|refine blk_drewN ?_ _|refine blk_drew ?_|refine blk_alloc ?_ _));refine blk_far ?_ NB519_523.out _;(with_reducible repeat (first|refine blk_drewN ?_ _|refine blk_drew ?_|refine blk_alloc ?_ _));refine blk_far ?_ NB519_523.out _;(with_reducible repeat (first|refine blk_drewN ?_ _|refine blk_drew ?_|refine blk_alloc ?_ _));refine blk_far ?_ NB519_523.out _;(with_reducible repeat (first|refine blk_drewN ?_ _|refine blk_drew ?_|refine blk_alloc ?_ _));exact BK519.out⟩
            have n1_:Aside0 ((((((w37.setCell ⟨gb523,0,none⟩ (.string t520)).setCell ⟨gb523,1,none⟩ (.int .i64 t521)).setCell ⟨gb523,2,none⟩ (.int .i64 t522)).setCell ⟨gb519,0,none⟩ (.string t520)).setCell ⟨gb519,1,none⟩ (.int .i64 t521)).heap[gb523]?=some (.cells #[.string t520,.int .i64 t521,.int .i64 t522] 85 (0,0))):=⟨by (with_reducible repeat (first|refine blk_drewN ?_ _|refine blk_drew ?_|refine blk_alloc ?_ _));refine blk_far ?_ NB523_519.out _;(with_reducible repeat (first|refine blk_drewN ?_ _|refine blk_drew ?_|refine blk_alloc ?_ _));refine blk_far ?_ NB523_519.out _;(with_reducible repeat (first|refine blk_drewN ?_ _|refine blk_drew ?_|refine blk_alloc ?_ _));refine blk_put (cs:=#[.string t520,.int .i64 t521,.int .i64 0]) ?_ 2 _ rfl;(with_reducible repeat (first|refine blk_drewN ?_ _|refine blk_drew ?_|refine blk_alloc ?_ _));refine blk_put (cs:=#[.string t520,.int .i64 0,.int .i64 0]) ?_ 1 _ rfl;(with_reducible repeat (first|refine blk_drewN ?_ _|refine blk_drew ?_|refine blk_alloc ?_ _));refine blk_put (cs:=#[.string (⟨#[]⟩:ByteArray),.int .i64 0,.int .i64 0]) ?_ 0 _ rfl;(with_reducible repeat (first|refine blk_drewN ?_ _|refine blk_drew ?_|refine blk_alloc ?_ _));exact BK523.out⟩
            have n2_:Aside0 (IsS130 w (((((w37.setCell ⟨gb523,0,none⟩ (.string t520)).setCell ⟨gb523,1,none⟩ (.int .i64 t521)).setCell ⟨gb523,2,none⟩ (.int .i64 t522)).setCell ⟨gb519,0,none⟩ (.string t520)).setCell ⟨gb519,1,none⟩ (.int .i64 t521)) g515 x516000_2 x516001_2 x516002_2):=⟨by repeat (first|(with_reducible first|exact HI515.out|apply IsS130.alloc|apply IsS130.drewN|apply IsS130.drew|apply IsS130.set_0|apply IsS130.set_1|apply IsS130.set_2|refine IsS130.far ?_ NB515_519.out _|refine IsS130.far ?_ NB515_523.out _)|exact HI515.out)⟩
            have n3_:Aside0 (Below w.heap.size w (((((w37.setCell ⟨gb523,0,none⟩ (.string t520)).setCell ⟨gb523,1,none⟩ (.int .i64 t521)).setCell ⟨gb523,2,none⟩ (.int .i64 t522)).setCell ⟨gb519,0,none⟩ (.string t520)).setCell ⟨gb519,1,none⟩ (.int .i64 t521))):=⟨by repeat (first|(with_reducible first|exact HB.out|apply below_alloc|apply pw_below_drewN|apply below_drew1|refine below_set ?_ (IsS130.ge HI515.out)|refine below_set ?_ GE519.out|refine below_set ?_ GE523.out)|exact HB.out)⟩
            (try clear BK519)
            (try clear BK523)
            (try clear HI515)
            (try clear HB)
            generalize (((((w37.setCell ⟨gb523,0,none⟩ (.string t520)).setCell ⟨gb523,1,none⟩ (.int .i64 t521)).setCell ⟨gb523,2,none⟩ (.int .i64 t522)).setCell ⟨gb519,0,none⟩ (.string t520)).setCell ⟨gb519,1,none⟩ (.int .i64 t521))=w42 at n0_ n1_ n2_ n3_ ⊢
            have BK519:=n0_
            have BK523:=n1_
            have HI515:=n2_
            have HB:=n3_
            clear n0_ n1_ n2_ n3_
            have n0_:=Aside0.mk (blk_drew BK519.out)
            have n1_:=Aside0.mk (blk_drew BK523.out)
            have n2_:=Aside0.mk (IsS130.drew HI515.out)
            have n3_:=Aside0.mk (below_drew1 HB.out)
            clear BK519
            clear BK523
            clear HI515
            clear HB
            have BK519:=n0_
            have BK523:=n1_
            have HI515:=n2_
            have HB:=n3_
            clear n0_ n1_ n2_ n3_
            refine start_ (n:=13) (S:=fun w'=>w'.cell? ⟨gb523,0,none⟩=some (.string t520)∧w'.cell? ⟨gb523,1,none⟩=some (.int .i64 t521)∧w'.cell? ⟨gb523,2,none⟩=some (.int .i64 t522)) (ds:=[]) #[false,false,false,false,false,false,false,false,false,false,false,false,false] (by kernel_rfl) rfl rfl ⟨(blk_cell BK523.out 0).trans rfl,(blk_cell BK523.out 1).trans rfl,(blk_cell BK523.out 2).trans rfl⟩ (fun hHeld=>?_);refine with_tabW mosaiclaw04_PrngBlocks.tab12 mosaiclaw04_PrngBlocks.bits12 (fun HT_ HW_=>?_)
            generalize w42.drew=w43 at BK519 BK523 HI515 HB hHeld ⊢
            refine pure_ (i:=0) (N:=some 55) (v:=?_) (a':=?_) #[true,false,false,false,false,false,false,false,false,false,false,false,false] rfl rfl (any_of HT_.out (by kernel_rfl)) (fun _ _ _ h=>h) (Or.inl ⟨by rfl,?_⟩) ?_ ?_
            rotate_left
            ·
             intro w'
             go_simp
             with_reducible rfl
            rotate_left
            ·
             simp only [Act.put,List.setIfInBounds_toArray,List.set_cons_zero,List.set_cons_succ,i64_w,i32_w]
             rfl
            refine pure_ (i:=3) (N:=some 58) (v:=?_) (a':=?_) #[true,false,false,true,false,false,false,false,false,false,false,false,false] rfl rfl (any_of HT_.out (by kernel_rfl)) (fun _ _ _ h=>h) (Or.inl ⟨by rfl,?_⟩) ?_ ?_
            rotate_left
            ·
             intro w'
             go_simp
             with_reducible rfl
            rotate_left
            ·
             simp only [Act.put,List.setIfInBounds_toArray,List.set_cons_zero,List.set_cons_succ,i64_w,i32_w]
             rfl
            refine take_ (i:=4) (N:=some 59) (v:=?_) (a':=?_) #[true,false,false,true,true,false,false,false,false,false,false,false,false] rfl rfl (take_ofW HT_.out HW_.out (by kernel_rfl)) (fun _ _ _ h=>h) (Or.inl ⟨by rfl,?_⟩) hHeld ?_ ?_
            rotate_left
            ·
             rintro w' ⟨s0,s1,s2⟩
             go_simp
             with_reducible rfl
            rotate_left
            ·
             simp only [Act.put,List.setIfInBounds_toArray,List.set_cons_zero,List.set_cons_succ,i64_w,i32_w]
             rfl
            refine one_ (i:=1) (N:=some 56) #[true,true,false,true,true,false,false,false,false,false,false,false,false] rfl rfl (one_of HT_.out (by kernel_rfl)) (by decide) (fun K hK=>?_)
            refine goes_ Try.func67 (by kernel_rfl) rfl #[.pointer (some ⟨g515,0,none⟩)] (by rfl) rfl rfl (by (try simp only [List.map_toArray,List.map_cons,List.map_nil]);first|done|rfl|(simp only [List.length_drop,List.length_take];rfl)) ?_
            with_reducible refine (prng_Gen_Word.calls kj25 g515 x516000_2 x516001_2 x516002_2 t524 t525 t526 t527 w _ ?side1 ?side2 A30.out).mono ?_
            (case side1=>repeat (first|(with_reducible first|exact HI515.out|apply IsS130.alloc|apply IsS130.drewN|apply IsS130.drew|apply IsS130.set_0|apply IsS130.set_1|apply IsS130.set_2|refine IsS130.far ?_ NB515_519.out _|refine IsS130.far ?_ NB515_523.out _)|exact HI515.out))
            (case side2=>repeat (first|(with_reducible first|exact HB.out|apply below_alloc|apply pw_below_drewN|apply below_drew1|refine below_set ?_ (IsS130.ge HI515.out)|refine below_set ?_ GE519.out|refine below_set ?_ GE523.out)|exact HB.out))
            rintro e w44 ⟨rfl,hi,hb,hk⟩
            refine ⟨_,rfl,?_⟩
            have n0_:=Aside0.mk (KeepBut.blk hk (g':=gb519) (o:=.cells #[.string t520,.int .i64 t521] 83 (0,0)) (by (with_reducible repeat (first|refine blk_drewN ?_ _|refine blk_drew ?_|refine blk_alloc ?_ _));exact BK519.out) NB519_515.out (by simp))
            have n1_:=Aside0.mk (KeepBut.blk hk (g':=gb523) (o:=.cells #[.string t520,.int .i64 t521,.int .i64 t522] 85 (0,0)) (by (with_reducible repeat (first|refine blk_drewN ?_ _|refine blk_drew ?_|refine blk_alloc ?_ _));exact BK523.out) NB523_515.out (by simp))
            have n2_:=Aside0.mk (hb)
            have n3_:=Aside0.mk (hi)
            clear BK519
            clear BK523
            clear HB
            clear HI515
            have BK519:=n0_
            have BK523:=n1_
            have HB:=n2_
            have HI515:=n3_
            clear n0_ n1_ n2_ n3_
            (try clear hb)
            (try clear hb2)
            (try clear hk)
            (try clear hi)
            refine hK.out _ _ ⟨(blk_cell BK523.out 0).trans rfl,(blk_cell BK523.out 1).trans rfl,(blk_cell BK523.out 2).trans rfl⟩ (fun hHeld=>?_)
            clear hK K
            refine norm_ (a':=?_) ?_ ?_
            rotate_left
            ·
             show Act.put _ (some 56) _=_
             simp only [Act.put,List.setIfInBounds_toArray,List.set_cons_zero,List.set_cons_succ,i64_w,i32_w]
             rfl
            refine pure_ (i:=2) (N:=some 57) (v:=?_) (a':=?_) #[true,true,true,true,true,false,false,false,false,false,false,false,false] rfl rfl (any_of HT_.out (by kernel_rfl)) (fun _ _ _ h=>h) (Or.inl ⟨by rfl,?_⟩) ?_ ?_
            rotate_left
            ·
             intro w'
             go_simp
             with_reducible rfl
            rotate_left
            ·
             simp only [Act.put,List.setIfInBounds_toArray,List.set_cons_zero,List.set_cons_succ,i64_w,i32_w]
             rfl
            refine pure_ (i:=5) (N:=some 60) (v:=?_) (a':=?_) #[true,true,true,true,true,true,false,false,false,false,false,false,false] rfl rfl (any_of HT_.out (by kernel_rfl)) (fun _ _ _ h=>h) (Or.inl ⟨by rfl,?_⟩) ?_ ?_
            rotate_left
            ·
             intro w'
             go_simp
             with_reducible rfl
            rotate_left
            ·
             simp only [Act.put,List.setIfInBounds_toArray,List.set_cons_zero,List.set_cons_succ,i64_w,i32_w]
             rfl
            refine pure_ (i:=6) (N:=some 61) (v:=?_) (a':=?_) #[true,true,true,true,true,true,true,false,false,false,false,false,false] rfl rfl (any_of HT_.out (by kernel_rfl)) (fun _ _ _ h=>h) (Or.inl ⟨by rfl,?_⟩) ?_ ?_
            rotate_left
            ·
             intro w'
             go_simp
             with_reducible rfl
            rotate_left
            ·
             simp only [Act.put,List.setIfInBounds_toArray,List.set_cons_zero,List.set_cons_succ,i64_w,i32_w]
             rfl
            refine pure_ (i:=7) (N:=some 62) (v:=?_) (a':=?_) #[true,true,true,true,true,true,true,true,false,false,false,false,false] rfl rfl (any_of HT_.out (by kernel_rfl)) (fun _ _ _ h=>h) (Or.inl ⟨by rfl,?_⟩) ?_ ?_
            rotate_left
            ·
             intro w'
             go_simp
             with_reducible rfl
            rotate_left
            ·
             simp only [Act.put,List.setIfInBounds_toArray,List.set_cons_zero,List.set_cons_succ,i64_w,i32_w]
             rfl
            refine pure_ (i:=9) (N:=some 64) (v:=?_) (a':=?_) #[true,true,true,true,true,true,true,true,false,true,false,false,false] rfl rfl (any_of HT_.out (by kernel_rfl)) (fun _ _ _ h=>h) (Or.inl ⟨by rfl,?_⟩) ?_ ?_
            rotate_left
            ·
             intro w'
             go_simp
             with_reducible rfl
            rotate_left
            ·
             simp only [Act.put,List.setIfInBounds_toArray,List.set_cons_zero,List.set_cons_succ,i64_w,i32_w]
             rfl
            refine pure_ (i:=10) (N:=some 65) (v:=?_) (a':=?_) #[true,true,true,true,true,true,true,true,false,true,true,false,false] rfl rfl (any_of HT_.out (by kernel_rfl)) (fun _ _ _ h=>h) (Or.inl ⟨by rfl,?_⟩) ?_ ?_
            rotate_left
            ·
             intro w'
             go_simp
             with_reducible rfl
            rotate_left
            ·
             simp only [Act.put,List.setIfInBounds_toArray,List.set_cons_zero,List.set_cons_succ,i64_w,i32_w]
             rfl
            refine one_ (i:=8) (N:=some 63) #[true,true,true,true,true,true,true,true,true,true,true,false,false] rfl rfl (one_of HT_.out (by kernel_rfl)) (by decide) (fun K hK=>?_)
            refine goes_ Try.func68 (by kernel_rfl) rfl #[.pointer (some ⟨g515,0,none⟩)] (by rfl) rfl rfl (by (try simp only [List.map_toArray,List.map_cons,List.map_nil]);first|done|rfl|(simp only [List.length_drop,List.length_take];rfl)) ?_
            with_reducible refine (prng_Gen_Used.calls g515 t525 t526 t527 t528 t529 t530 t531 w _ ?side1 ?side2 A32.out).mono ?_
            (case side1=>repeat (first|(with_reducible first|exact HI515.out|apply IsS130.alloc|apply IsS130.drewN|apply IsS130.drew|apply IsS130.set_0|apply IsS130.set_1|apply IsS130.set_2|refine IsS130.far ?_ NB515_519.out _|refine IsS130.far ?_ NB515_523.out _)|exact HI515.out))
            (case side2=>repeat (first|(with_reducible first|exact HB.out|apply below_alloc|apply pw_below_drewN|apply below_drew1|refine below_set ?_ (IsS130.ge HI515.out)|refine below_set ?_ GE519.out|refine below_set ?_ GE523.out)|exact HB.out))
            rintro e w45 ⟨rfl,hi,hb,hk⟩
            refine ⟨_,rfl,?_⟩
            have n0_:=Aside0.mk (KeepBut.blk hk (g':=gb519) (o:=.cells #[.string t520,.int .i64 t521] 83 (0,0)) (by (with_reducible repeat (first|refine blk_drewN ?_ _|refine blk_drew ?_|refine blk_alloc ?_ _));exact BK519.out) NB519_515.out (by simp))
            have n1_:=Aside0.mk (KeepBut.blk hk (g':=gb523) (o:=.cells #[.string t520,.int .i64 t521,.int .i64 t522] 85 (0,0)) (by (with_reducible repeat (first|refine blk_drewN ?_ _|refine blk_drew ?_|refine blk_alloc ?_ _));exact BK523.out) NB523_515.out (by simp))
            have n2_:=Aside0.mk (hb)
            have n3_:=Aside0.mk (hi)
            clear BK519
            clear BK523
            clear HB
            clear HI515
            have BK519:=n0_
            have BK523:=n1_
            have HB:=n2_
            have HI515:=n3_
            clear n0_ n1_ n2_ n3_
            (try clear hb)
            (try clear hb2)
            (try clear hk)
            (try clear hi)
            refine hK.out _ _ ⟨(blk_cell BK523.out 0).trans rfl,(blk_cell BK523.out 1).trans rfl,(blk_cell BK523.out 2).trans rfl⟩ (fun hHeld=>?_)
            clear hK K
            refine norm_ (a':=?_) ?_ ?_
            rotate_left
            ·
             show Act.put _ (some 63) _=_
             simp only [Act.put,List.setIfInBounds_toArray,List.set_cons_zero,List.set_cons_succ,i64_w,i32_w]
             rfl
            refine pure_ (i:=11) (N:=some 66) (v:=?_) (a':=?_) #[true,true,true,true,true,true,true,true,true,true,true,true,false] rfl rfl (any_of HT_.out (by kernel_rfl)) (fun _ _ _ h=>h) (Or.inl ⟨by rfl,?_⟩) ?_ ?_
            rotate_left
            ·
             intro w'
             go_simp
             with_reducible rfl
            rotate_left
            ·
             simp only [Act.put,List.setIfInBounds_toArray,List.set_cons_zero,List.set_cons_succ,i64_w,i32_w]
             rfl
            refine pure_ (i:=12) (N:=some 67) (v:=?_) (a':=?_) #[true,true,true,true,true,true,true,true,true,true,true,true,true] rfl rfl (any_of HT_.out (by kernel_rfl)) (fun _ _ _ h=>h) (Or.inl ⟨by rfl,?_⟩) ?_ ?_
            rotate_left
            ·
             intro w'
             go_simp
             with_reducible rfl
            rotate_left
            ·
             simp only [Act.put,List.setIfInBounds_toArray,List.set_cons_zero,List.set_cons_succ,i64_w,i32_w]
             rfl
            refine done_ (done_of HT_.out (by kernel_rfl)) ?_
            try go_wp2
            go_roundg kj25
            case measure=>have:=HJ7.out;have:=HK2.out;have:=HJ25.out;omega
            case rel=>exact ⟨(wrap64 (x9_2+1)),(t529),(t530),(t531),(t520),(t521),(by first|rfl|(simp;done)|(simp [*];done)),H',⟨by have:=HJ7.out;have:=HK2.out;have:=HJ25.out;omega⟩,⟨by (with_reducible repeat (first|refine blk_drewN ?_ _|refine blk_drew ?_|refine blk_alloc ?_ _));exact BK519.out⟩,⟨by repeat (first|(with_reducible first|exact HI515.out|apply IsS130.alloc|apply IsS130.drewN|apply IsS130.drew|apply IsS130.set_0|apply IsS130.set_1|apply IsS130.set_2|refine IsS130.far ?_ NB515_519.out _|refine IsS130.far ?_ NB515_523.out _)|exact HI515.out)⟩,⟨by repeat (first|(with_reducible first|exact HB.out|apply below_alloc|apply pw_below_drewN|apply below_drew1|refine below_set ?_ (IsS130.ge HI515.out)|refine below_set ?_ GE519.out|refine below_set ?_ GE523.out)|exact HB.out)⟩⟩
           ·
            rw [if_neg c33] at H
            have c33b0:(t528 == (wrap64 (x9_2+1)))=false:=beq_eq_false_iff_ne.mpr c33
            have c33b1:(t528 != (wrap64 (x9_2+1)))=true:=bne_iff_ne.mpr c33
            exact absurd (Option.some.inj H) (by simp)
          ·
           rw [if_neg c31] at H
           have c31b0:((wrap64 (t524)) == t522)=false:=beq_eq_false_iff_ne.mpr c31
           have c31b1:((wrap64 (t524)) != t522)=true:=bne_iff_ne.mpr c31
           exact absurd (Option.some.inj H) (by simp)
         ·
          replace c28:=Bool.eq_false_iff.mpr c28
          subst c28
          have H1:(some true)=some true:=rfl
          clear H
          have H:=H1
          clear H1
          clear H
          go_wp2
          go_ret
          exact ⟨by first|rfl|(simp [errW_none,errW_some] <;> rfl)|(simp [*,errW_none,errW_some] <;> rfl),by repeat (first|(with_reducible first|exact HB.out|apply below_alloc|apply pw_below_drewN|apply below_drew1|refine below_set ?_ (IsS130.ge HI515.out)|refine below_set ?_ GE519.out)|exact HB.out)⟩
end Go.Proofs.Ytelcaepenfjloaa.Print
/-! #### Pr61 -/
namespace Go.Proofs.Ytelcaepenfjloaa.Print
open Go.RowKit Go.Proofs.YtelcaepenfjloaaW.PrintWords Go.Proofs.YtelcaepenfjloaaW.PrintLast Go.Proofs.YtelcaepenfjloaaW.PrintMore
attribute [local go_sem] max2_int min2_int max_two min_two max_three min_three max_four min_four
set_option linter.unusedVariables false
set_option linter.unusedSimpArgs false
/-! ### mosaicref04_Choose: function 61 -/
mutual
def mosaicref04_Choose.j0:Nat→List Int→Int→Bool→Option (Int×Int)
 | 0,_,_,_=>none
 | k+1,x0,x1,x19=>if x19=true then (some (0,0)) else (if x1=0 then (none) else (mosaicref04_Choose.l0 k x0 x1 (wrap64 (4294967296 - ((4294967296:Int) % x1))) 0 0 0))
def mosaicref04_Choose.l0:Nat→List Int→Int→Int→Int→Int→Int→Option (Int×Int)
 | 0,_,_,_,_,_,_=>none
 | k+1,x0,x1,x5,x6,x7,x8=>if x8 < (x0.length:Int) then (mosaicref04_Choose.j2 k x0 x1 x5 x6 x7 x8 (decide (x8 < 8))) else (mosaicref04_Choose.j2 k x0 x1 x5 x6 x7 x8 false)
def mosaicref04_Choose.j2:Nat→List Int→Int→Int→Int→Int→Int→Bool→Option (Int×Int)
 | 0,_,_,_,_,_,_,_=>none
 | k+1,x0,x1,x5,x6,x7,x8,x31=>if x31=true then (if 0≤x8 then (if x8 < (x0.length:Int) then (if (wrap64 (rd x0 x8)) < x5 then (if x1=0 then (none) else (some (Int.tmod (wrap64 (rd x0 x8)) x1,wrap64 (x8+1)))) else (mosaicref04_Choose.l0 k x0 x1 x5 (wrap64 (rd x0 x8)) (wrap64 (x8+1)) (wrap64 (x8+1)))) else (none)) else (none)) else (if x1=0 then (none) else (some (Int.tmod x6 x1,x7)))
end
def mosaicref04_Choose.f (k:Nat) (l0:List Int) (a1:Int):Option (Int×Int):=if a1 < 1 then (mosaicref04_Choose.j0 k l0 a1 true) else (if a1 > 2147483647 then (mosaicref04_Choose.j0 k l0 a1 true) else (mosaicref04_Choose.j0 k l0 a1 ((l0.length:Int) == 0)))
theorem mosaicref04_Choose.mono_l:∀ k,(∀ y0 y1 y2,LeO (mosaicref04_Choose.j0 k y0 y1 y2) (mosaicref04_Choose.j0 (k+1) y0 y1 y2))∧(∀ y0 y1 y2 y3 y4 y5,LeO (mosaicref04_Choose.l0 k y0 y1 y2 y3 y4 y5) (mosaicref04_Choose.l0 (k+1) y0 y1 y2 y3 y4 y5))∧(∀ y0 y1 y2 y3 y4 y5 y6,LeO (mosaicref04_Choose.j2 k y0 y1 y2 y3 y4 y5 y6) (mosaicref04_Choose.j2 (k+1) y0 y1 y2 y3 y4 y5 y6))
 | 0=>⟨fun _ _ _ r h=>by simp [mosaicref04_Choose.j0] at h,fun _ _ _ _ _ _ r h=>by simp [mosaicref04_Choose.l0] at h,fun _ _ _ _ _ _ _ r h=>by simp [mosaicref04_Choose.j2] at h⟩
 | k+1=>by
  obtain ⟨ih0,ih1,ih2⟩:=mosaicref04_Choose.mono_l k
  refine ⟨?_,?_,?_⟩
  ·
   intro y0 y1 y2
   unfold mosaicref04_Choose.j0
   repeat' first
   | (with_reducible exact ih0 _ _ _)
   | (with_reducible exact ih1 _ _ _ _ _ _)
   | (with_reducible exact ih2 _ _ _ _ _ _ _)
   | (with_reducible exact LeO.refl _)
   | (with_reducible exact LeO.none _)
   | (with_reducible refine LeO.ite ?_ ?_)
   | (with_reducible refine LeO.bind ?_ (fun _=>?_))
   | exact ih0 _ _ _
   | exact ih1 _ _ _ _ _ _
   | exact ih2 _ _ _ _ _ _ _
   | exact LeO.none _
   | refine LeO.ite ?_ ?_
   | refine LeO.bind ?_ (fun _=>?_)
  ·
   intro y0 y1 y2 y3 y4 y5
   unfold mosaicref04_Choose.l0
   repeat' first
   | (with_reducible exact ih0 _ _ _)
   | (with_reducible exact ih1 _ _ _ _ _ _)
   | (with_reducible exact ih2 _ _ _ _ _ _ _)
   | (with_reducible exact LeO.refl _)
   | (with_reducible exact LeO.none _)
   | (with_reducible refine LeO.ite ?_ ?_)
   | (with_reducible refine LeO.bind ?_ (fun _=>?_))
   | exact ih0 _ _ _
   | exact ih1 _ _ _ _ _ _
   | exact ih2 _ _ _ _ _ _ _
   | exact LeO.none _
   | refine LeO.ite ?_ ?_
   | refine LeO.bind ?_ (fun _=>?_)
  ·
   intro y0 y1 y2 y3 y4 y5 y6
   unfold mosaicref04_Choose.j2
   repeat' first
   | (with_reducible exact ih0 _ _ _)
   | (with_reducible exact ih1 _ _ _ _ _ _)
   | (with_reducible exact ih2 _ _ _ _ _ _ _)
   | (with_reducible exact LeO.refl _)
   | (with_reducible exact LeO.none _)
   | (with_reducible refine LeO.ite ?_ ?_)
   | (with_reducible refine LeO.bind ?_ (fun _=>?_))
   | exact ih0 _ _ _
   | exact ih1 _ _ _ _ _ _
   | exact ih2 _ _ _ _ _ _ _
   | exact LeO.none _
   | refine LeO.ite ?_ ?_
   | refine LeO.bind ?_ (fun _=>?_)
theorem mosaicref04_Choose.mono:∀ a0 a1 k,LeO (mosaicref04_Choose.f k a0 a1) (mosaicref04_Choose.f (k+1) a0 a1):=by
 intro a0 a1 k
 obtain ⟨ih0,ih1,ih2⟩:=mosaicref04_Choose.mono_l k
 unfold mosaicref04_Choose.f
 repeat' first
   | (with_reducible exact ih0 _ _ _)
   | (with_reducible exact ih1 _ _ _ _ _ _)
   | (with_reducible exact ih2 _ _ _ _ _ _ _)
   | (with_reducible exact LeO.refl _)
   | (with_reducible exact LeO.none _)
   | (with_reducible refine LeO.ite ?_ ?_)
   | (with_reducible refine LeO.bind ?_ (fun _=>?_))
   | exact ih0 _ _ _
   | exact ih1 _ _ _ _ _ _
   | exact ih2 _ _ _ _ _ _ _
   | exact LeO.none _
   | refine LeO.ite ?_ ?_
   | refine LeO.bind ?_ (fun _=>?_)
set_option maxHeartbeats 8000000 in
set_option maxRecDepth 100000 in
theorem mosaicref04_Choose.calls (k:Nat) (A0:Option Addr) (c0:Nat) (l0:List Int) (a1:Int) (r1:Int) (r2:Int) (w:World) (hr0:Kd.C (Kd.int .u32) w A0 l0.length l0) (hc0:l0.length≤c0) (h:mosaicref04_Choose.f k l0 a1=some (r1,r2)) :
  Calls Try.prog 61 #[.slice A0 l0.length c0,.int .i64 a1] w fun e w'=>e=.returned (.agg #[.int .i64 r1,.int .i64 r2])∧Below w.heap.size w w':=by
 have hu72:=Try.underlying72
 have HR0:=Aside0.mk hr0
 have HC0:=Aside0.mk hc0
 clear hr0 hc0
 have HB:=Aside0.mk (Below.refl w.heap.size w)
 have H:(if a1 < 1 then (mosaicref04_Choose.j0 k l0 a1 true) else (if a1 > 2147483647 then (mosaicref04_Choose.j0 k l0 a1 true) else (mosaicref04_Choose.j0 k l0 a1 ((l0.length:Int) == 0))))=some (r1,r2):=h
 clear h
 have HC3:=Aside0.mk H
 clear H
 go_enter Try.func61,Try.ntmps61
 go_upto_region 1 with (first|((with_reducible refine gate_dst (N:=4) rfl ?_);(try (refine gate_guard (by rfl) ?_;dsimp only));refine box_event ?hg (N:=4) ?hd (cs:=#[.int .i64 0,.int .i64 0]) (t:=72) ?hr ?_;(case hd=>rfl);(case hg=>rfl);(case hr=>first|(go_simp;done)|(go_simp;rfl));intro gb463 hg w4 hbox hb;have n0_:=Aside0.mk (below_step (by repeat (first|(with_reducible first|exact HB.out|apply below_alloc|apply pw_below_drewN|apply below_drew1)|exact HB.out)) hb);have n1_:=Aside0.mk (hbox);have n2_:=Aside0.mk ((by rw [hg];exact (below_size (by repeat (first|(with_reducible first|exact HB.out|apply below_alloc|apply pw_below_drewN|apply below_drew1)|exact HB.out))):w.heap.size≤gb463));have n3_:=Aside0.mk ((by rw [hg];exact (below_size (by repeat (first|(with_reducible first|exact HB.out|apply below_alloc|apply pw_below_drewN|apply below_drew1)|exact HB.out))):w.heap.size≤gb463));clear HB;have HB:=n0_;have BK463:=n1_;have GW463:=n2_;have GE463:=n3_;clear n0_ n1_ n2_ n3_;clear hb hbox hg))
 (try simp only [Act.put,List.setIfInBounds_toArray,List.set_cons_zero,List.set_cons_succ])
 go_cut [19] (fun v19 wc=>∃ (kq:Nat) (x19_2:Bool),v19=.bool x19_2∧Aside0 (mosaicref04_Choose.j0 kq l0 a1 x19_2=some (r1,r2))∧Aside0 (kq≤k)∧Aside0 (wc.heap[gb463]?=some (.cells #[.int .i64 0,.int .i64 0] 72 (0,0)))∧Aside0 (Below w.heap.size w wc))
 case first =>
  have H:=HC3.out
  clear HC3
  by_cases c5:a1 < 1
  ·
   rw [if_pos c5] at H
   have c5b0:decide (a1 < 1)=true:=decide_eq_true c5
   clear c5
   (first|rw [c5b0]|(simp only [i64_w,i32_w];rw [c5b0])|skip)
   have H':=Aside0.mk H
   clear H
   go_wp2
   go_meet
   case rel=>exact ⟨_,(true),(by first|rfl|(simp;done)|(simp [*];done)),H',⟨by first|omega|exact Nat.le_refl _⟩,⟨by (with_reducible repeat (first|refine blk_drewN ?_ _|refine blk_drew ?_|refine blk_alloc ?_ _));exact BK463.out⟩,⟨by repeat (first|(with_reducible first|exact HB.out|apply below_alloc|apply pw_below_drewN|apply below_drew1|refine below_set ?_ GE463.out)|exact HB.out)⟩⟩
  ·
   rw [if_neg c5] at H
   have c5b0:decide (a1 < 1)=false:=decide_eq_false c5
   clear c5
   (first|rw [c5b0]|(simp only [i64_w,i32_w];rw [c5b0])|skip)
   by_cases c6:a1 > 2147483647
   ·
    rw [if_pos c6] at H
    have c6b0:decide (2147483647 < a1)=true:=decide_eq_true c6
    clear c6
    have H':=Aside0.mk H
    clear H
    go_wp2
    go_meet
    case rel=>exact ⟨_,(true),(by first|rfl|(simp;done)|(simp [*];done)),H',⟨by first|omega|exact Nat.le_refl _⟩,⟨by (with_reducible repeat (first|refine blk_drewN ?_ _|refine blk_drew ?_|refine blk_alloc ?_ _));exact BK463.out⟩,⟨by repeat (first|(with_reducible first|exact HB.out|apply below_alloc|apply pw_below_drewN|apply below_drew1|refine below_set ?_ GE463.out)|exact HB.out)⟩⟩
   ·
    rw [if_neg c6] at H
    have c6b0:decide (2147483647 < a1)=false:=decide_eq_false c6
    clear c6
    have H':=Aside0.mk H
    clear H
    go_wp2
    go_meet
    case rel=>exact ⟨_,(((l0.length:Int) == 0)),(by first|rfl|(simp;done)|(simp [*];done)),H',⟨by first|omega|exact Nat.le_refl _⟩,⟨by (with_reducible repeat (first|refine blk_drewN ?_ _|refine blk_drew ?_|refine blk_alloc ?_ _));exact BK463.out⟩,⟨by repeat (first|(with_reducible first|exact HB.out|apply below_alloc|apply pw_below_drewN|apply below_drew1|refine below_set ?_ GE463.out)|exact HB.out)⟩⟩
 case rest =>
  clear HC3
  try clear p2
  try clear c5
  try clear c5b0
  try clear c6
  try clear c6b0
  obtain ⟨kq,x19_2,rfl,HA,HJ2,BK463,HB⟩:=hcut
  cases kq with
  | zero=>exact absurd HA.out (by simp [mosaicref04_Choose.j0])
  | succ kj2 =>
   have H:=HA.out
   clear HA
   simp only [mosaicref04_Choose.j0] at H
   by_cases c7:x19_2=true
   ·
    subst c7
    have H1:(some (0,0))=some (r1,r2):=by rw [if_pos rfl] at H;exact H
    clear H
    have H:=H1
    clear H1
    simp only [Option.some.injEq,Prod.mk.injEq] at H
    obtain ⟨rfl,rfl⟩:=H
    have hcz8_0:wc.cell? ⟨gb463,0,none⟩=some (.int .i64 0):=(blk_cell BK463.out 0).trans rfl
    have hcz8_1:wc.cell? ⟨gb463,1,none⟩=some (.int .i64 0):=(blk_cell BK463.out 1).trans rfl
    have hfz8_0:=blk_frozen BK463.out 0
    have hfz8_1:=blk_frozen BK463.out 1
    go_wp2
    refine bodyPost_ret (results_cell_row rfl _ _ gb463 72 #[.int .i64 0,.int .i64 0] (0,0) _ rfl (by (with_reducible repeat (first|refine blk_drewN ?_ _|refine blk_drew ?_|refine blk_alloc ?_ _));refine blk_put (cs:=#[.int .i64 0,.int .i64 0]) ?_ 1 _ rfl;(with_reducible repeat (first|refine blk_drewN ?_ _|refine blk_drew ?_|refine blk_alloc ?_ _));refine blk_put (cs:=#[.int .i64 0,.int .i64 0]) ?_ 0 _ rfl;(with_reducible repeat (first|refine blk_drewN ?_ _|refine blk_drew ?_|refine blk_alloc ?_ _));exact BK463.out) Try.underlying72 rfl (by kernel_rfl)) rfl ?_
    exact ⟨by first|rfl|(simp [errW_none,errW_some] <;> rfl)|(simp [*,errW_none,errW_some] <;> rfl),by repeat (first|(with_reducible first|exact HB.out|apply below_alloc|apply pw_below_drewN|apply below_drew1|refine below_set ?_ GE463.out)|exact HB.out)⟩
   ·
    replace c7:=Bool.eq_false_iff.mpr c7
    subst c7
    have H1:(if a1=0 then (none) else (mosaicref04_Choose.l0 kj2 l0 a1 (wrap64 (4294967296 - ((4294967296:Int) % a1))) 0 0 0))=some (r1,r2):=by rw [if_neg (show ¬ (false=true) by decide)] at H;exact H
    clear H
    have H:=H1
    clear H1
    by_cases c9:a1=0
    ·
     rw [if_pos c9] at H
     exact absurd H (by simp)
    ·
     rw [if_neg c9] at H
     have c9b0:(a1 == 0)=false:=beq_eq_false_iff_ne.mpr c9
     have c9b1:(a1 != 0)=true:=bne_iff_ne.mpr c9
     have H':=Aside0.mk H
     clear H
     go_wp2
     go_loopg [6,7,8] kj2 (fun kq v6 v7 v8 w'=>∃ (x6_2:Int) (x7_2:Int) (x8_2:Int) (x464000_2:Int) (x464001_2:Int),v6=.int .i64 x6_2∧v7=.int .i64 x7_2∧v8=.int .i64 x8_2∧Aside0 (mosaicref04_Choose.l0 kq l0 a1 (wrap64 (4294967296 - ((4294967296:Int) % a1))) x6_2 x7_2 x8_2=some (r1,r2))∧Aside0 (kq≤kj2)∧Aside0 (w'.heap[gb463]?=some (.cells #[.int .i64 x464000_2,.int .i64 x464001_2] 72 (0,0)))∧Aside0 (Below w.heap.size w w'))
     case atStart=>exact ⟨(0),(0),(0),(0),(0),(by first|rfl|(simp;done)|(simp [*];done)),(by first|rfl|(simp;done)|(simp [*];done)),(by first|rfl|(simp;done)|(simp [*];done)),H',⟨Nat.le_refl _⟩,⟨by (with_reducible repeat (first|refine blk_drewN ?_ _|refine blk_drew ?_|refine blk_alloc ?_ _));exact BK463.out⟩,⟨by repeat (first|(with_reducible first|exact HB.out|apply below_alloc|apply pw_below_drewN|apply below_drew1|refine below_set ?_ GE463.out)|exact HB.out)⟩⟩
     case round =>
      clear H'
      try clear p2
      try clear c5
      try clear c5b0
      try clear c6
      try clear c6b0
      try clear p6
      try clear c7
      try clear c9
      try clear c9b0
      try clear c9b1
      try clear hcz8_0
      try clear hcz8_1
      try clear hfz8_0
      try clear hfz8_1
      try clear p2
      obtain ⟨x6_2,x7_2,x8_2,x464000_2,x464001_2,rfl,rfl,rfl,HA,HK2,BK463,HB⟩:=hrel
      cases gk with
      | zero=>exact absurd HA.out (by simp [mosaicref04_Choose.l0])
      | succ k2 =>
       have H:=HA.out
       clear HA
       simp only [mosaicref04_Choose.l0] at H
       have HC10:=Aside0.mk H
       clear H
       go_upto_region 7 with (fail)
       go_cut [31] (fun v31 wc=>∃ (kq:Nat) (x31_9:Bool),v31=.bool x31_9∧Aside0 (mosaicref04_Choose.j2 kq l0 a1 (wrap64 (4294967296 - ((4294967296:Int) % a1))) x6_2 x7_2 x8_2 x31_9=some (r1,r2))∧Aside0 (kq≤k2)∧Aside0 (wc.heap[gb463]?=some (.cells #[.int .i64 x464000_2,.int .i64 x464001_2] 72 (0,0)))∧Aside0 (Below w.heap.size w wc))
       case first =>
        have H:=HC10.out
        clear HC10
        by_cases c11:x8_2 < (l0.length:Int)
        ·
         rw [if_pos c11] at H
         have c11b0:decide (x8_2 < (l0.length:Int))=true:=decide_eq_true c11
         clear c11
         (first|rw [c11b0]|(simp only [i64_w,i32_w];rw [c11b0])|skip)
         have H':=Aside0.mk H
         clear H
         go_wp2
         go_meet
         case rel=>exact ⟨_,(decide (x8_2 < 8)),(by first|rfl|(simp;done)|(simp [*];done)),H',⟨by have:=HJ2.out;have:=HK2.out;first|omega|exact Nat.le_refl _⟩,⟨by (with_reducible repeat (first|refine blk_drewN ?_ _|refine blk_drew ?_|refine blk_alloc ?_ _));exact BK463.out⟩,⟨by repeat (first|(with_reducible first|exact HB.out|apply below_alloc|apply pw_below_drewN|apply below_drew1|refine below_set ?_ GE463.out)|exact HB.out)⟩⟩
        ·
         rw [if_neg c11] at H
         have c11b0:decide (x8_2 < (l0.length:Int))=false:=decide_eq_false c11
         clear c11
         (first|rw [c11b0]|(simp only [i64_w,i32_w];rw [c11b0])|skip)
         have H':=Aside0.mk H
         clear H
         go_wp2
         go_meet
         case rel=>exact ⟨_,(false),(by first|rfl|(simp;done)|(simp [*];done)),H',⟨by have:=HJ2.out;have:=HK2.out;first|omega|exact Nat.le_refl _⟩,⟨by (with_reducible repeat (first|refine blk_drewN ?_ _|refine blk_drew ?_|refine blk_alloc ?_ _));exact BK463.out⟩,⟨by repeat (first|(with_reducible first|exact HB.out|apply below_alloc|apply pw_below_drewN|apply below_drew1|refine below_set ?_ GE463.out)|exact HB.out)⟩⟩
       case rest =>
        clear HC10
        try clear c1
        try clear p2
        try clear c5
        try clear c5b0
        try clear c6
        try clear c6b0
        try clear p6
        try clear c7
        try clear c9
        try clear c9b0
        try clear c9b1
        try clear c11
        try clear c11b0
        try clear hcz8_0
        try clear hcz8_1
        try clear hfz8_0
        try clear hfz8_1
        try clear p2
        try clear p6
        obtain ⟨kq,x31_9,rfl,HA,HJ9,BK463,HB⟩:=hcut
        cases kq with
        | zero=>exact absurd HA.out (by simp [mosaicref04_Choose.j2])
        | succ kj9 =>
         have H:=HA.out
         clear HA
         simp only [mosaicref04_Choose.j2] at H
         by_cases c12:x31_9=true
         ·
          subst c12
          have H1:(if 0≤x8_2 then (if x8_2 < (l0.length:Int) then (if (wrap64 (rd l0 x8_2)) < (wrap64 (4294967296 - ((4294967296:Int) % a1))) then (if a1=0 then (none) else (some (Int.tmod (wrap64 (rd l0 x8_2)) a1,wrap64 (x8_2+1)))) else (mosaicref04_Choose.l0 kj9 l0 a1 (wrap64 (4294967296 - ((4294967296:Int) % a1))) (wrap64 (rd l0 x8_2)) (wrap64 (x8_2+1)) (wrap64 (x8_2+1)))) else (none)) else (none))=some (r1,r2):=by rw [if_pos rfl] at H;exact H
          clear H
          have H:=H1
          clear H1
          by_cases c13:0≤x8_2
          ·
           rw [if_pos c13] at H
           have c13b0:decide (0≤x8_2)=true:=decide_eq_true c13
           clear c13
           by_cases c14:x8_2 < (l0.length:Int)
           ·
            rw [if_pos c14] at H
            have c14b0:decide (x8_2 < (l0.length:Int))=true:=decide_eq_true c14
            clear c14
            by_cases c15:(wrap64 (rd l0 x8_2)) < (wrap64 (4294967296 - ((4294967296:Int) % a1)))
            ·
             rw [if_pos c15] at H
             have c15b0:decide ((wrap64 (rd l0 x8_2)) < (wrap64 (4294967296 - ((4294967296:Int) % a1))))=true:=decide_eq_true c15
             clear c15
             by_cases c16:a1=0
             ·
              rw [if_pos c16] at H
              exact absurd H (by simp)
             ·
              rw [if_neg c16] at H
              have c16b0:(a1 == 0)=false:=beq_eq_false_iff_ne.mpr c16
              have c16b1:(a1 != 0)=true:=bne_iff_ne.mpr c16
              simp only [Option.some.injEq,Prod.mk.injEq] at H
              obtain ⟨rfl,rfl⟩:=H
              have p464:0≤(x8_2:Int):=of_decide_eq_true (by first|(with_reducible assumption)|assumption)
              have q464:x8_2 < (l0.length:Int):=of_decide_eq_true (by first|(with_reducible assumption)|assumption)
              obtain ⟨ad464,e464,hx464_0⟩:=Kd.at_int HR0.out x8_2 p464 q464
              cases e464
              replace hx464_0:=(HB.out.cell (World.block_lt_of_cell? w _ hx464_0)).trans hx464_0
              replace p464:=eq_true p464
              replace q464:=eq_true q464
              have hcz17_0:wc.cell? ⟨gb463,0,none⟩=some (.int .i64 x464000_2):=(blk_cell BK463.out 0).trans rfl
              have hcz17_1:wc.cell? ⟨gb463,1,none⟩=some (.int .i64 x464001_2):=(blk_cell BK463.out 1).trans rfl
              have hfz17_0:=blk_frozen BK463.out 0
              have hfz17_1:=blk_frozen BK463.out 1
              go_wp2
              refine bodyPost_ret (results_cell_row rfl _ _ gb463 72 #[.int .i64 (Int.tmod (wrap64 (rd l0 x8_2)) a1),.int .i64 (wrap64 (x8_2+1))] (0,0) _ rfl (by (with_reducible repeat (first|refine blk_drewN ?_ _|refine blk_drew ?_|refine blk_alloc ?_ _));refine blk_put (cs:=#[.int .i64 (Int.tmod (wrap64 (rd l0 x8_2)) a1),.int .i64 x464001_2]) ?_ 1 _ rfl;(with_reducible repeat (first|refine blk_drewN ?_ _|refine blk_drew ?_|refine blk_alloc ?_ _));refine blk_put (cs:=#[.int .i64 x464000_2,.int .i64 x464001_2]) ?_ 0 _ rfl;(with_reducible repeat (first|refine blk_drewN ?_ _|refine blk_drew ?_|refine blk_alloc ?_ _));exact BK463.out) Try.underlying72 rfl (by kernel_rfl)) rfl ?_
              exact ⟨by first|rfl|(simp [errW_none,errW_some] <;> rfl)|(simp [*,errW_none,errW_some] <;> rfl),by repeat (first|(with_reducible first|exact HB.out|apply below_alloc|apply pw_below_drewN|apply below_drew1|refine below_set ?_ GE463.out)|exact HB.out)⟩
            ·
             rw [if_neg c15] at H
             have c15b0:decide ((wrap64 (rd l0 x8_2)) < (wrap64 (4294967296 - ((4294967296:Int) % a1))))=false:=decide_eq_false c15
             clear c15
             have H':=Aside0.mk H
             clear H
             have p464:0≤(x8_2:Int):=of_decide_eq_true (by first|(with_reducible assumption)|assumption)
             have q464:x8_2 < (l0.length:Int):=of_decide_eq_true (by first|(with_reducible assumption)|assumption)
             obtain ⟨ad464,e464,hx464_0⟩:=Kd.at_int HR0.out x8_2 p464 q464
             cases e464
             replace hx464_0:=(HB.out.cell (World.block_lt_of_cell? w _ hx464_0)).trans hx464_0
             replace p464:=eq_true p464
             replace q464:=eq_true q464
             go_wp2
             go_roundg kj9
             case measure=>have:=HJ2.out;have:=HK2.out;have:=HJ9.out;omega
             case rel=>exact ⟨(wrap64 (rd l0 x8_2)),(wrap64 (x8_2+1)),(wrap64 (x8_2+1)),(x464000_2),(x464001_2),(by first|rfl|(simp;done)|(simp [*];done)),(by first|rfl|(simp;done)|(simp [*];done)),(by first|rfl|(simp;done)|(simp [*];done)),H',⟨by have:=HJ2.out;have:=HK2.out;have:=HJ9.out;omega⟩,⟨by (with_reducible repeat (first|refine blk_drewN ?_ _|refine blk_drew ?_|refine blk_alloc ?_ _));exact BK463.out⟩,⟨by repeat (first|(with_reducible first|exact HB.out|apply below_alloc|apply pw_below_drewN|apply below_drew1|refine below_set ?_ GE463.out)|exact HB.out)⟩⟩
           ·
            rw [if_neg c14] at H
            exact absurd H (by simp)
          ·
           rw [if_neg c13] at H
           exact absurd H (by simp)
         ·
          replace c12:=Bool.eq_false_iff.mpr c12
          subst c12
          have H1:(if a1=0 then (none) else (some (Int.tmod x6_2 a1,x7_2)))=some (r1,r2):=by rw [if_neg (show ¬ (false=true) by decide)] at H;exact H
          clear H
          have H:=H1
          clear H1
          by_cases c18:a1=0
          ·
           rw [if_pos c18] at H
           exact absurd H (by simp)
          ·
           rw [if_neg c18] at H
           have c18b0:(a1 == 0)=false:=beq_eq_false_iff_ne.mpr c18
           have c18b1:(a1 != 0)=true:=bne_iff_ne.mpr c18
           simp only [Option.some.injEq,Prod.mk.injEq] at H
           obtain ⟨rfl,rfl⟩:=H
           have hcz19_0:wc.cell? ⟨gb463,0,none⟩=some (.int .i64 x464000_2):=(blk_cell BK463.out 0).trans rfl
           have hcz19_1:wc.cell? ⟨gb463,1,none⟩=some (.int .i64 x464001_2):=(blk_cell BK463.out 1).trans rfl
           have hfz19_0:=blk_frozen BK463.out 0
           have hfz19_1:=blk_frozen BK463.out 1
           go_wp2
           refine bodyPost_ret (results_cell_row rfl _ _ gb463 72 #[.int .i64 (Int.tmod x6_2 a1),.int .i64 x7_2] (0,0) _ rfl (by (with_reducible repeat (first|refine blk_drewN ?_ _|refine blk_drew ?_|refine blk_alloc ?_ _));refine blk_put (cs:=#[.int .i64 (Int.tmod x6_2 a1),.int .i64 x464001_2]) ?_ 1 _ rfl;(with_reducible repeat (first|refine blk_drewN ?_ _|refine blk_drew ?_|refine blk_alloc ?_ _));refine blk_put (cs:=#[.int .i64 x464000_2,.int .i64 x464001_2]) ?_ 0 _ rfl;(with_reducible repeat (first|refine blk_drewN ?_ _|refine blk_drew ?_|refine blk_alloc ?_ _));exact BK463.out) Try.underlying72 rfl (by kernel_rfl)) rfl ?_
           exact ⟨by first|rfl|(simp [errW_none,errW_some] <;> rfl)|(simp [*,errW_none,errW_some] <;> rfl),by repeat (first|(with_reducible first|exact HB.out|apply below_alloc|apply pw_below_drewN|apply below_drew1|refine below_set ?_ GE463.out)|exact HB.out)⟩
end Go.Proofs.Ytelcaepenfjloaa.Print
/-! #### Pr69 -/
namespace Go.Proofs.Ytelcaepenfjloaa.Print
open Go.RowKit Go.Proofs.YtelcaepenfjloaaW.PrintWords Go.Proofs.YtelcaepenfjloaaW.PrintLast Go.Proofs.YtelcaepenfjloaaW.PrintMore
attribute [local go_sem] max2_int min2_int max_two min_two max_three min_three max_four min_four
set_option linter.unusedVariables false
set_option linter.unusedSimpArgs false
/-! ### mosaicref04_Gen_Below: function 69 -/
mutual
def mosaicref04_Gen_Below.j0:Nat→Int→Bool→ByteArray→Int→Option (ByteArray×Int×Int)
 | 0,_,_,_,_=>none
 | k+1,x1,x13,x533000,x533001=>if x13=true then (some (x533000,x533001,0)) else (mosaicref04_Gen_Below.l0 k x1 ([]:List Int) 0 x533000 x533001)
def mosaicref04_Gen_Below.l0:Nat→Int→List Int→Int→ByteArray→Int→Option (ByteArray×Int×Int)
 | 0,_,_,_,_,_=>none
 | k+1,x1,x5,x6,x533000,x533001=>if x6 < 8 then ((mosaicref04_Gen_word.f k x533000 x533001 (wrap64 (x533001+x6))).bind fun t534=>(if x5.length < 35184372088832 then (mosaicref04_Gen_Below.l0 k x1 (x5 ++ [(t534) % 4294967296]) (wrap64 (x6+1)) x533000 x533001) else (none))) else ((mosaicref04_Choose.f k x5 x1).bind fun bt538=>(some (x533000,wrap64 (x533001+bt538.2),bt538.1)))
end
def mosaicref04_Gen_Below.f (k:Nat) (a0_0:ByteArray) (a0_1:Int) (a1:Int):Option (ByteArray×Int×Int):=if a1 < 1 then (mosaicref04_Gen_Below.j0 k a1 true a0_0 a0_1) else (mosaicref04_Gen_Below.j0 k a1 (decide (a1 > 2147483647)) a0_0 a0_1)
theorem mosaicref04_Gen_Below.mono_l:∀ k,(∀ y0 y1 y2 y3,LeO (mosaicref04_Gen_Below.j0 k y0 y1 y2 y3) (mosaicref04_Gen_Below.j0 (k+1) y0 y1 y2 y3))∧(∀ y0 y1 y2 y3 y4,LeO (mosaicref04_Gen_Below.l0 k y0 y1 y2 y3 y4) (mosaicref04_Gen_Below.l0 (k+1) y0 y1 y2 y3 y4))
 | 0=>⟨fun _ _ _ _ r h=>by simp [mosaicref04_Gen_Below.j0] at h,fun _ _ _ _ _ r h=>by simp [mosaicref04_Gen_Below.l0] at h⟩
 | k+1=>by
  obtain ⟨ih0,ih1⟩:=mosaicref04_Gen_Below.mono_l k
  refine ⟨?_,?_⟩
  ·
   intro y0 y1 y2 y3
   unfold mosaicref04_Gen_Below.j0
   repeat' first
   | (with_reducible exact ih0 _ _ _ _)
   | (with_reducible exact ih1 _ _ _ _ _)
   | (with_reducible exact mosaicref04_Choose.mono _ _ _)
   | (with_reducible exact mosaicref04_Gen_word.mono _ _ _ _)
   | (with_reducible exact LeO.refl _)
   | (with_reducible exact LeO.none _)
   | (with_reducible refine LeO.ite ?_ ?_)
   | (with_reducible refine LeO.bind ?_ (fun _=>?_))
   | exact ih0 _ _ _ _
   | exact ih1 _ _ _ _ _
   | exact mosaicref04_Choose.mono _ _ _
   | exact mosaicref04_Gen_word.mono _ _ _ _
   | exact LeO.none _
   | refine LeO.ite ?_ ?_
   | refine LeO.bind ?_ (fun _=>?_)
  ·
   intro y0 y1 y2 y3 y4
   unfold mosaicref04_Gen_Below.l0
   repeat' first
   | (with_reducible exact ih0 _ _ _ _)
   | (with_reducible exact ih1 _ _ _ _ _)
   | (with_reducible exact mosaicref04_Choose.mono _ _ _)
   | (with_reducible exact mosaicref04_Gen_word.mono _ _ _ _)
   | (with_reducible exact LeO.refl _)
   | (with_reducible exact LeO.none _)
   | (with_reducible refine LeO.ite ?_ ?_)
   | (with_reducible refine LeO.bind ?_ (fun _=>?_))
   | exact ih0 _ _ _ _
   | exact ih1 _ _ _ _ _
   | exact mosaicref04_Choose.mono _ _ _
   | exact mosaicref04_Gen_word.mono _ _ _ _
   | exact LeO.none _
   | refine LeO.ite ?_ ?_
   | refine LeO.bind ?_ (fun _=>?_)
theorem mosaicref04_Gen_Below.mono:∀ a0 a1 a2 k,LeO (mosaicref04_Gen_Below.f k a0 a1 a2) (mosaicref04_Gen_Below.f (k+1) a0 a1 a2):=by
 intro a0 a1 a2 k
 obtain ⟨ih0,ih1⟩:=mosaicref04_Gen_Below.mono_l k
 unfold mosaicref04_Gen_Below.f
 repeat' first
   | (with_reducible exact ih0 _ _ _ _)
   | (with_reducible exact ih1 _ _ _ _ _)
   | (with_reducible exact mosaicref04_Choose.mono _ _ _)
   | (with_reducible exact mosaicref04_Gen_word.mono _ _ _ _)
   | (with_reducible exact LeO.refl _)
   | (with_reducible exact LeO.none _)
   | (with_reducible refine LeO.ite ?_ ?_)
   | (with_reducible refine LeO.bind ?_ (fun _=>?_))
   | exact ih0 _ _ _ _
   | exact ih1 _ _ _ _ _
   | exact mosaicref04_Choose.mono _ _ _
   | exact mosaicref04_Gen_word.mono _ _ _ _
   | exact LeO.none _
   | refine LeO.ite ?_ ?_
   | refine LeO.bind ?_ (fun _=>?_)
set_option maxHeartbeats 8000000 in
set_option maxRecDepth 100000 in
theorem mosaicref04_Gen_Below.calls (k:Nat) (a0_0:ByteArray) (a0_1:Int) (a1:Int) (r1:ByteArray) (r2:Int) (r3:Int) (w:World) (h:mosaicref04_Gen_Below.f k a0_0 a0_1 a1=some (r1,r2,r3)) :
  Calls Try.prog 69 #[.agg #[.string a0_0,.int .i64 a0_1],.int .i64 a1] w fun e w'=>e=.returned (.agg #[.string r1,.int .i64 r2,.int .i64 r3])∧Below w.heap.size w w':=by
 have hu83:=Try.underlying83
 have hu85:=Try.underlying85
 have hu72:=Try.underlying72
 have HB:=Aside0.mk (Below.refl w.heap.size w)
 have H:(if a1 < 1 then (mosaicref04_Gen_Below.j0 k a1 true a0_0 a0_1) else (mosaicref04_Gen_Below.j0 k a1 (decide (a1 > 2147483647)) a0_0 a0_1))=some (r1,r2,r3):=h
 clear h
 have HC3:=Aside0.mk H
 clear H
 go_enter Try.func69,Try.ntmps69
 go_upto_region 1 with (first|((with_reducible refine gate_dst (N:=2) rfl ?_);refine box_event ?hg (N:=2) ?hd (cs:=#[.string a0_0,.int .i64 a0_1]) (t:=83) ?hr ?_;(case hd=>rfl);(case hg=>rfl);(case hr=>first|(go_simp;done)|(go_simp;rfl));intro gb532 hg w4 hbox hb;have n0_:=Aside0.mk (below_step (by repeat (first|(with_reducible first|exact HB.out|apply below_alloc|apply pw_below_drewN|apply below_drew1)|exact HB.out)) hb);have n1_:=Aside0.mk (hbox);have n2_:=Aside0.mk ((by rw [hg];exact (below_size (by repeat (first|(with_reducible first|exact HB.out|apply below_alloc|apply pw_below_drewN|apply below_drew1)|exact HB.out))):w.heap.size≤gb532));have n3_:=Aside0.mk ((by rw [hg];exact (below_size (by repeat (first|(with_reducible first|exact HB.out|apply below_alloc|apply pw_below_drewN|apply below_drew1)|exact HB.out))):w.heap.size≤gb532));clear HB;have HB:=n0_;have BK532:=n1_;have GW532:=n2_;have GE532:=n3_;clear n0_ n1_ n2_ n3_;clear hb hbox hg)|((with_reducible refine gate_dst (N:=4) rfl ?_);refine box_event ?hg (N:=4) ?hd (cs:=#[.string (⟨#[]⟩:ByteArray),.int .i64 0,.int .i64 0]) (t:=85) ?hr ?_;(case hd=>rfl);(case hg=>rfl);(case hr=>first|(go_simp;done)|(go_simp;rfl));intro gb533 hg w5 hbox hb;have n0_:=Aside0.mk (blk_below (g:=gb532) (o:=.cells #[.string a0_0,.int .i64 a0_1] 83 (0,0)) (by (with_reducible repeat (first|refine blk_drewN ?_ _|refine blk_drew ?_|refine blk_alloc ?_ _));exact BK532.out) hb);have n1_:=Aside0.mk (below_step (by repeat (first|(with_reducible first|exact HB.out|apply below_alloc|apply pw_below_drewN|apply below_drew1|refine below_set ?_ GE532.out)|exact HB.out)) hb);have n2_:=Aside0.mk (hbox);have n3_:=Aside0.mk ((by rw [hg];exact (below_size (by repeat (first|(with_reducible first|exact HB.out|apply below_alloc|apply pw_below_drewN|apply below_drew1|refine below_set ?_ GE532.out)|exact HB.out))):w.heap.size≤gb533));have n4_:=Aside0.mk ((by rw [hg];exact (below_size (by repeat (first|(with_reducible first|exact HB.out|apply below_alloc|apply pw_below_drewN|apply below_drew1|refine below_set ?_ GE532.out)|exact HB.out))):w.heap.size≤gb533));have n5_:=Aside0.mk ((by rw [hg];exact Nat.ne_of_lt (blk_lt (g:=gb532) (o:=.cells #[.string a0_0,.int .i64 a0_1] 83 (0,0)) (by (with_reducible repeat (first|refine blk_drewN ?_ _|refine blk_drew ?_|refine blk_alloc ?_ _));exact BK532.out)):gb532≠gb533));have n6_:=Aside0.mk ((by rw [hg];exact Nat.ne_of_gt (blk_lt (g:=gb532) (o:=.cells #[.string a0_0,.int .i64 a0_1] 83 (0,0)) (by (with_reducible repeat (first|refine blk_drewN ?_ _|refine blk_drew ?_|refine blk_alloc ?_ _));exact BK532.out)):gb533≠gb532));clear BK532;clear HB;have BK532:=n0_;have HB:=n1_;have BK533:=n2_;have GW533:=n3_;have GE533:=n4_;have NB532_533:=n5_;have NB533_532:=n6_;clear n0_ n1_ n2_ n3_ n4_ n5_ n6_;clear hb hbox hg))
 (try simp only [Act.put,List.setIfInBounds_toArray,List.set_cons_zero,List.set_cons_succ])
 go_cut [13] (fun v13 wc=>∃ (kq:Nat) (x13_2:Bool),v13=.bool x13_2∧Aside0 (mosaicref04_Gen_Below.j0 kq a1 x13_2 a0_0 a0_1=some (r1,r2,r3))∧Aside0 (kq≤k)∧Aside0 (wc.heap[gb532]?=some (.cells #[.string a0_0,.int .i64 a0_1] 83 (0,0)))∧Aside0 (wc.heap[gb533]?=some (.cells #[.string (⟨#[]⟩:ByteArray),.int .i64 0,.int .i64 0] 85 (0,0)))∧Aside0 (Below w.heap.size w wc))
 case first =>
  have H:=HC3.out
  clear HC3
  by_cases c6:a1 < 1
  ·
   rw [if_pos c6] at H
   have c6b0:decide (a1 < 1)=true:=decide_eq_true c6
   clear c6
   (first|rw [c6b0]|(simp only [i64_w,i32_w];rw [c6b0])|skip)
   have H':=Aside0.mk H
   clear H
   go_wp2
   go_meet
   case rel=>exact ⟨_,(true),(by first|rfl|(simp;done)|(simp [*];done)),H',⟨by first|omega|exact Nat.le_refl _⟩,⟨by (with_reducible repeat (first|refine blk_drewN ?_ _|refine blk_drew ?_|refine blk_alloc ?_ _));exact BK532.out⟩,⟨by (with_reducible repeat (first|refine blk_drewN ?_ _|refine blk_drew ?_|refine blk_alloc ?_ _));exact BK533.out⟩,⟨by repeat (first|(with_reducible first|exact HB.out|apply below_alloc|apply pw_below_drewN|apply below_drew1|refine below_set ?_ GE532.out|refine below_set ?_ GE533.out)|exact HB.out)⟩⟩
  ·
   rw [if_neg c6] at H
   have c6b0:decide (a1 < 1)=false:=decide_eq_false c6
   clear c6
   (first|rw [c6b0]|(simp only [i64_w,i32_w];rw [c6b0])|skip)
   have H':=Aside0.mk H
   clear H
   go_wp2
   go_meet
   case rel=>exact ⟨_,(decide (a1 > 2147483647)),(by first|rfl|(simp;done)|(simp [*];done)),H',⟨by first|omega|exact Nat.le_refl _⟩,⟨by (with_reducible repeat (first|refine blk_drewN ?_ _|refine blk_drew ?_|refine blk_alloc ?_ _));exact BK532.out⟩,⟨by (with_reducible repeat (first|refine blk_drewN ?_ _|refine blk_drew ?_|refine blk_alloc ?_ _));exact BK533.out⟩,⟨by repeat (first|(with_reducible first|exact HB.out|apply below_alloc|apply pw_below_drewN|apply below_drew1|refine below_set ?_ GE532.out|refine below_set ?_ GE533.out)|exact HB.out)⟩⟩
 case rest =>
  clear HC3
  try clear p2
  try clear c6
  try clear c6b0
  obtain ⟨kq,x13_2,rfl,HA,HJ2,BK532,BK533,HB⟩:=hcut
  cases kq with
  | zero=>exact absurd HA.out (by simp [mosaicref04_Gen_Below.j0])
  | succ kj2 =>
   have H:=HA.out
   clear HA
   simp only [mosaicref04_Gen_Below.j0] at H
   by_cases c7:x13_2=true
   ·
    subst c7
    have H1:(some (a0_0,a0_1,0))=some (r1,r2,r3):=by rw [if_pos rfl] at H;exact H
    clear H
    have H:=H1
    clear H1
    simp only [Option.some.injEq,Prod.mk.injEq] at H
    obtain ⟨rfl,rfl,rfl⟩:=H
    have hnb8:=NB532_533.out
    have hnc8:=NB533_532.out
    have hcz9_0:wc.cell? ⟨gb532,0,none⟩=some (.string a0_0):=(blk_cell BK532.out 0).trans rfl
    have hcz9_1:wc.cell? ⟨gb532,1,none⟩=some (.int .i64 a0_1):=(blk_cell BK532.out 1).trans rfl
    have hfz9_0:=blk_frozen BK532.out 0
    have hfz9_1:=blk_frozen BK532.out 1
    have hcz10_0:wc.cell? ⟨gb533,0,none⟩=some (.string (⟨#[]⟩:ByteArray)):=(blk_cell BK533.out 0).trans rfl
    have hcz10_1:wc.cell? ⟨gb533,1,none⟩=some (.int .i64 0):=(blk_cell BK533.out 1).trans rfl
    have hcz10_2:wc.cell? ⟨gb533,2,none⟩=some (.int .i64 0):=(blk_cell BK533.out 2).trans rfl
    have hfz10_0:=blk_frozen BK533.out 0
    have hfz10_1:=blk_frozen BK533.out 1
    have hfz10_2:=blk_frozen BK533.out 2
    go_wp2
    refine bodyPost_ret (results_cell_row rfl _ _ gb533 85 #[.string a0_0,.int .i64 a0_1,.int .i64 0] (0,0) _ rfl (by (with_reducible repeat (first|refine blk_drewN ?_ _|refine blk_drew ?_|refine blk_alloc ?_ _));refine blk_put (cs:=#[.string a0_0,.int .i64 a0_1,.int .i64 0]) ?_ 2 _ rfl;(with_reducible repeat (first|refine blk_drewN ?_ _|refine blk_drew ?_|refine blk_alloc ?_ _));refine blk_put (cs:=#[.string a0_0,.int .i64 0,.int .i64 0]) ?_ 1 _ rfl;(with_reducible repeat (first|refine blk_drewN ?_ _|refine blk_drew ?_|refine blk_alloc ?_ _));refine blk_put (cs:=#[.string (⟨#[]⟩:ByteArray),.int .i64 0,.int .i64 0]) ?_ 0 _ rfl;(with_reducible repeat (first|refine blk_drewN ?_ _|refine blk_drew ?_|refine blk_alloc ?_ _));exact BK533.out) Try.underlying85 rfl (by kernel_rfl)) rfl ?_
    exact ⟨by first|rfl|(simp [errW_none,errW_some] <;> rfl)|(simp [*,errW_none,errW_some] <;> rfl),by repeat (first|(with_reducible first|exact HB.out|apply below_alloc|apply pw_below_drewN|apply below_drew1|refine below_set ?_ GE532.out|refine below_set ?_ GE533.out)|exact HB.out)⟩
   ·
    replace c7:=Bool.eq_false_iff.mpr c7
    subst c7
    have H1:(mosaicref04_Gen_Below.l0 kj2 a1 ([]:List Int) 0 a0_0 a0_1)=some (r1,r2,r3):=by rw [if_neg (show ¬ (false=true) by decide)] at H;exact H
    clear H
    have H:=H1
    clear H1
    have H':=Aside0.mk H
    clear H
    go_wp2
    go_loopg [5,6] kj2 (fun kq v5 v6 w'=>∃ (x5_2:List Int) (x6_2:Int),v6=.int .i64 x6_2∧Aside0 (mosaicref04_Gen_Below.l0 kq a1 x5_2 x6_2 a0_0 a0_1=some (r1,r2,r3))∧Aside0 (kq≤kj2)∧Aside0 (Kd.R (Kd.int .u32) 27 w' w.heap.size (fun _=>True) v5 x5_2)∧Aside0 (w'.heap[gb532]?=some (.cells #[.string a0_0,.int .i64 a0_1] 83 (0,0)))∧Aside0 (w'.heap[gb533]?=some (.cells #[.string (⟨#[]⟩:ByteArray),.int .i64 0,.int .i64 0] 85 (0,0)))∧Aside0 (Below w.heap.size w w'))
    case atStart=>exact ⟨(([]:List Int)),(0),(by first|rfl|(simp;done)|(simp [*];done)),H',⟨Nat.le_refl _⟩,⟨by first|exact Kd.R_nil _ _ _ _ _|exact Kd.N_nil _ _ _ _ _|exact Kd.V_nil _ _ _ _ _|exact Kd.Q_nil _ _ _ _ _|exact Kd.S_nil _ _ _ _ _⟩,⟨by (with_reducible repeat (first|refine blk_drewN ?_ _|refine blk_drew ?_|refine blk_alloc ?_ _));exact BK532.out⟩,⟨by (with_reducible repeat (first|refine blk_drewN ?_ _|refine blk_drew ?_|refine blk_alloc ?_ _));exact BK533.out⟩,⟨by repeat (first|(with_reducible first|exact HB.out|apply below_alloc|apply pw_below_drewN|apply below_drew1|refine below_set ?_ GE532.out|refine below_set ?_ GE533.out)|exact HB.out)⟩⟩
    case round =>
     clear H'
     try clear p2
     try clear c6
     try clear c6b0
     try clear c7
     try clear c8
     try clear hcz10_0
     try clear hcz10_1
     try clear hcz10_2
     try clear hcz9_0
     try clear hcz9_1
     try clear hfz10_0
     try clear hfz10_1
     try clear hfz10_2
     try clear hfz9_0
     try clear hfz9_1
     try clear p2
     obtain ⟨x5_2,x6_2,rfl,HA,HK2,HO_5,BK532,BK533,HB⟩:=hrel
     cases gk with
     | zero=>exact absurd HA.out (by simp [mosaicref04_Gen_Below.l0])
     | succ k2 =>
      have H:=HA.out
      clear HA
      simp only [mosaicref04_Gen_Below.l0] at H
      by_cases c11:x6_2 < 8
      ·
       rw [if_pos c11] at H
       have c11b0:decide (x6_2 < 8)=true:=decide_eq_true c11
       clear c11
       replace H:=Option.bind_eq_some_iff.mp H
       obtain ⟨t534,A120,H⟩:=H
       replace H:(if x5_2.length < 35184372088832 then (mosaicref04_Gen_Below.l0 k2 a1 (x5_2 ++ [(t534) % 4294967296]) (wrap64 (x6_2+1)) a0_0 a0_1) else (none))=some (r1,r2,r3):=H
       have A12:=Aside0.mk A120
       clear A120
       by_cases c13:x5_2.length < 35184372088832
       ·
        rw [if_pos c13] at H
        have LMc13:=Aside0.mk c13
        clear c13
        obtain ⟨y535,hy535⟩:∃ y_:List Int,y_=(x5_2 ++ [(t534) % 4294967296]):=⟨_,rfl⟩
        replace H:(mosaicref04_Gen_Below.l0 k2 a1 y535 (wrap64 (x6_2+1)) a0_0 a0_1)=some (r1,r2,r3):=by first|(rw [hy535];with_reducible exact H)|(have H2_:=(Option.bind_some _ _).symm.trans H;rw [hy535];with_reducible exact H2_)|(have H2_:=(Option.bind_some _ _).symm.trans H;with_reducible exact H2_)|with_reducible exact H|(rw [hy535];exact H)|exact H
        have Ny535:=Aside0.mk hy535
        clear hy535
        have H':=Aside0.mk H
        clear H
        have hnb14:=NB532_533.out
        have hnc14:=NB533_532.out
        have hcz15_0:wr.cell? ⟨gb532,0,none⟩=some (.string a0_0):=(blk_cell BK532.out 0).trans rfl
        have hcz15_1:wr.cell? ⟨gb532,1,none⟩=some (.int .i64 a0_1):=(blk_cell BK532.out 1).trans rfl
        have hfz15_0:=blk_frozen BK532.out 0
        have hfz15_1:=blk_frozen BK532.out 1
        go_wp2_with (first|((with_reducible refine gate_callee (f:=105) rfl ?_);refine goesL_ (some 26) rfl rfl Try.func105 (by kernel_rfl) rfl #[.agg #[.string a0_0,.int .i64 a0_1],.int .i64 (wrap64 (a0_1+x6_2))] rfl (by (try simp only [List.map_toArray,List.map_cons,List.map_nil]);first|done|rfl|(simp only [List.length_drop,List.length_take];rfl)) ?_;(with_reducible refine (mosaicref04_Gen_word.calls k2 a0_0 a0_1 (wrap64 (a0_1+x6_2)) t534 _ A12.out).mono ?_);rintro e w16 ⟨rfl,hb⟩;refine ⟨_,rfl,?_⟩;have n0_:=Aside0.mk (Kd.R_below (by (with_reducible repeat (first|apply Kd.R_alloc|apply Kd.R_drewN|apply Kd.R_drew));exact HO_5.out) hb);have n1_:=Aside0.mk (blk_below (g:=gb532) (o:=.cells #[.string a0_0,.int .i64 a0_1] 83 (0,0)) (by (with_reducible repeat (first|refine blk_drewN ?_ _|refine blk_drew ?_|refine blk_alloc ?_ _));exact BK532.out) hb);have n2_:=Aside0.mk (blk_below (g:=gb533) (o:=.cells #[.string (⟨#[]⟩:ByteArray),.int .i64 0,.int .i64 0] 85 (0,0)) (by (with_reducible repeat (first|refine blk_drewN ?_ _|refine blk_drew ?_|refine blk_alloc ?_ _));exact BK533.out) hb);have n3_:=Aside0.mk (below_step (by repeat (first|(with_reducible first|exact HB.out|apply below_alloc|apply pw_below_drewN|apply below_drew1|refine below_set ?_ GE532.out|refine below_set ?_ GE533.out)|exact HB.out)) hb);clear HO_5;clear BK532;clear BK533;clear HB;have HO_5:=n0_;have BK532:=n1_;have BK533:=n2_;have HB:=n3_;clear n0_ n1_ n2_ n3_;(try clear hb);(try clear hb2);(try clear hk);(try clear hi))|((with_reducible refine gate_builtin (b:=.append) (xs:=#[.tmp 20,.tmp 28]) rfl ?_);at_builtin;refine Kd.R_append (Kd.int .u32) (w0:=w) w.heap.size rfl (.tmp 20) (.tmp 28) 33 27 (.int .u32 0) 4 rfl Try.underlying33 info27 rfl (by decide) (by omega) u5 x5_2 ((t534) % 4294967296) [.int .u32 ((t534) % 4294967296)] (fun _=>True) (fun _=>False) rfl rfl ?aP (fun _ hk=>hk.elim) ?aF ?aO ?aB ?aS ?aL ?_;(case aP=>exact rfl);(case aB=>exact (by repeat (first|(with_reducible first|exact HB.out|apply below_alloc|apply pw_below_drewN|apply below_drew1|refine below_set ?_ GE532.out|refine below_set ?_ GE533.out)|exact HB.out)));(case aF=>exact (fun _ _=>trivial));(case aO=>exact (by (with_reducible repeat (first|apply Kd.R_alloc|apply Kd.R_drewN|apply Kd.R_drew));exact HO_5.out));(case aS=>exact (below_size (by repeat (first|(with_reducible first|exact HB.out|apply below_alloc|apply pw_below_drewN|apply below_drew1|refine below_set ?_ GE532.out|refine below_set ?_ GE533.out)|exact HB.out))));(case aL=>have:=LMc13.out;omega);intro v536 w17 ho hb hg hat;rw [← Ny535.out] at ho;have n0_:=Aside0.mk (blk_grown (g:=gb532) (o:=.cells #[.string a0_0,.int .i64 a0_1] 83 (0,0)) (by (with_reducible repeat (first|refine blk_drewN ?_ _|refine blk_drew ?_|refine blk_alloc ?_ _));exact BK532.out) hg (Kd.R_ne HO_5.out BK532.out (by decide)));have n1_:=Aside0.mk (blk_grown (g:=gb533) (o:=.cells #[.string (⟨#[]⟩:ByteArray),.int .i64 0,.int .i64 0] 85 (0,0)) (by (with_reducible repeat (first|refine blk_drewN ?_ _|refine blk_drew ?_|refine blk_alloc ?_ _));exact BK533.out) hg (Kd.R_ne HO_5.out BK533.out (by decide)));have n2_:=Aside0.mk (hb);have n3_:=Aside0.mk (ho);clear BK532;clear BK533;clear HB;clear HO_5;have BK532:=n0_;have BK533:=n1_;have HB:=n2_;have HO537:=n3_;clear n0_ n1_ n2_ n3_;clear ho hb hg hat))
        go_roundg k2
        case measure=>have:=HJ2.out;have:=HK2.out;omega
        case rel=>exact ⟨(y535),(wrap64 (x6_2+1)),(by first|rfl|(simp;done)|(simp [*];done)),H',⟨by have:=HJ2.out;have:=HK2.out;omega⟩,⟨by (with_reducible repeat (first|apply Kd.R_alloc|apply Kd.R_drewN|apply Kd.R_drew));exact HO537.out⟩,⟨by (with_reducible repeat (first|refine blk_drewN ?_ _|refine blk_drew ?_|refine blk_alloc ?_ _));exact BK532.out⟩,⟨by (with_reducible repeat (first|refine blk_drewN ?_ _|refine blk_drew ?_|refine blk_alloc ?_ _));exact BK533.out⟩,⟨by repeat (first|(with_reducible first|exact HB.out|apply below_alloc|apply pw_below_drewN|apply below_drew1|refine below_set ?_ GE532.out|refine below_set ?_ GE533.out)|exact HB.out)⟩⟩
       ·
        rw [if_neg c13] at H
        exact absurd H (by simp)
      ·
       rw [if_neg c11] at H
       have c11b0:decide (x6_2 < 8)=false:=decide_eq_false c11
       clear c11
       replace H:=Option.bind_eq_some_iff.mp H
       obtain ⟨⟨t538,t539⟩,A180,H⟩:=H
       replace H:(some (a0_0,wrap64 (a0_1+t539),t538))=some (r1,r2,r3):=H
       have A18:=Aside0.mk A180
       clear A180
       simp only [Option.some.injEq,Prod.mk.injEq] at H
       obtain ⟨rfl,rfl,rfl⟩:=H
       obtain ⟨Ao19,co19,eo19⟩:=Kd.R_slice HO_5.out
       subst eo19
       go_wp2_with (first|((with_reducible refine gate_callee (f:=61) rfl ?_);refine goesL_ (some 32) rfl rfl Try.func61 (by kernel_rfl) rfl #[.slice Ao19 x5_2.length co19,.int .i64 a1] rfl (by (try simp only [List.map_toArray,List.map_cons,List.map_nil]);first|done|rfl|(simp only [List.length_drop,List.length_take];rfl)) ?_;(with_reducible refine (mosaicref04_Choose.calls k2 _ _ x5_2 a1 t538 t539 _ ?side1 ?side2 A18.out).mono ?_);(case side1=>repeat (first|exact (Kd.R_reads' HO_5.out).2.2|(with_reducible refine Kd.C_alloc ?_ _)|(with_reducible refine Kd.C_drewN ?_ _)|(with_reducible refine Kd.C_drew ?_)));(case side2=>exact (Kd.R_reads' HO_5.out).2.1);rintro e w20 ⟨rfl,hb⟩;refine ⟨_,rfl,?_⟩;have n0_:=Aside0.mk (Kd.R_below (by (with_reducible repeat (first|apply Kd.R_alloc|apply Kd.R_drewN|apply Kd.R_drew));exact HO_5.out) hb);have n1_:=Aside0.mk (blk_below (g:=gb532) (o:=.cells #[.string a0_0,.int .i64 a0_1] 83 (0,0)) (by (with_reducible repeat (first|refine blk_drewN ?_ _|refine blk_drew ?_|refine blk_alloc ?_ _));exact BK532.out) hb);have n2_:=Aside0.mk (blk_below (g:=gb533) (o:=.cells #[.string (⟨#[]⟩:ByteArray),.int .i64 0,.int .i64 0] 85 (0,0)) (by (with_reducible repeat (first|refine blk_drewN ?_ _|refine blk_drew ?_|refine blk_alloc ?_ _));exact BK533.out) hb);have n3_:=Aside0.mk (below_step (by repeat (first|(with_reducible first|exact HB.out|apply below_alloc|apply pw_below_drewN|apply below_drew1|refine below_set ?_ GE532.out|refine below_set ?_ GE533.out)|exact HB.out)) hb);clear HO_5;clear BK532;clear BK533;clear HB;have HO_5:=n0_;have BK532:=n1_;have BK533:=n2_;have HB:=n3_;clear n0_ n1_ n2_ n3_;(try clear hb);(try clear hb2);(try clear hk);(try clear hi))|((with_reducible refine gate_dst (N:=7) rfl ?_);refine box_event ?hg (N:=7) ?hd (cs:=#[.int .i64 0,.int .i64 0]) (t:=72) ?hr ?_;(case hd=>rfl);(case hg=>rfl);(case hr=>first|(go_simp;done)|(go_simp;rfl));intro gb540 hg w21 hbox hb;have n0_:=Aside0.mk (Kd.R_below (by (with_reducible repeat (first|apply Kd.R_alloc|apply Kd.R_drewN|apply Kd.R_drew));exact HO_5.out) hb);have n1_:=Aside0.mk (blk_below (g:=gb532) (o:=.cells #[.string a0_0,.int .i64 a0_1] 83 (0,0)) (by (with_reducible repeat (first|refine blk_drewN ?_ _|refine blk_drew ?_|refine blk_alloc ?_ _));exact BK532.out) hb);have n2_:=Aside0.mk (blk_below (g:=gb533) (o:=.cells #[.string (⟨#[]⟩:ByteArray),.int .i64 0,.int .i64 0] 85 (0,0)) (by (with_reducible repeat (first|refine blk_drewN ?_ _|refine blk_drew ?_|refine blk_alloc ?_ _));exact BK533.out) hb);have n3_:=Aside0.mk (below_step (by repeat (first|(with_reducible first|exact HB.out|apply below_alloc|apply pw_below_drewN|apply below_drew1|refine below_set ?_ GE532.out|refine below_set ?_ GE533.out)|exact HB.out)) hb);have n4_:=Aside0.mk (hbox);have n5_:=Aside0.mk ((by rw [hg];exact (below_size (by repeat (first|(with_reducible first|exact HB.out|apply below_alloc|apply pw_below_drewN|apply below_drew1|refine below_set ?_ GE532.out|refine below_set ?_ GE533.out)|exact HB.out))):w.heap.size≤gb540));have n6_:=Aside0.mk ((by rw [hg];exact (below_size (by repeat (first|(with_reducible first|exact HB.out|apply below_alloc|apply pw_below_drewN|apply below_drew1|refine below_set ?_ GE532.out|refine below_set ?_ GE533.out)|exact HB.out))):w.heap.size≤gb540));have n7_:=Aside0.mk ((by rw [hg];exact Nat.ne_of_lt (blk_lt (g:=gb532) (o:=.cells #[.string a0_0,.int .i64 a0_1] 83 (0,0)) (by (with_reducible repeat (first|refine blk_drewN ?_ _|refine blk_drew ?_|refine blk_alloc ?_ _));exact BK532.out)):gb532≠gb540));have n8_:=Aside0.mk ((by rw [hg];exact Nat.ne_of_gt (blk_lt (g:=gb532) (o:=.cells #[.string a0_0,.int .i64 a0_1] 83 (0,0)) (by (with_reducible repeat (first|refine blk_drewN ?_ _|refine blk_drew ?_|refine blk_alloc ?_ _));exact BK532.out)):gb540≠gb532));have n9_:=Aside0.mk ((by rw [hg];exact Nat.ne_of_lt (blk_lt (g:=gb533) (o:=.cells #[.string (⟨#[]⟩:ByteArray),.int .i64 0,.int .i64 0] 85 (0,0)) (by (with_reducible repeat (first|refine blk_drewN ?_ _|refine blk_drew ?_|refine blk_alloc ?_ _));exact BK533.out)):gb533≠gb540));have n10_:=Aside0.mk ((by rw [hg];exact Nat.ne_of_gt (blk_lt (g:=gb533) (o:=.cells #[.string (⟨#[]⟩:ByteArray),.int .i64 0,.int .i64 0] 85 (0,0)) (by (with_reducible repeat (first|refine blk_drewN ?_ _|refine blk_drew ?_|refine blk_alloc ?_ _));exact BK533.out)):gb540≠gb533));clear HO_5;clear BK532;clear BK533;clear HB;have HO_5:=n0_;have BK532:=n1_;have BK533:=n2_;have HB:=n3_;have BK540:=n4_;have GW540:=n5_;have GE540:=n6_;have NB532_540:=n7_;have NB540_532:=n8_;have NB533_540:=n9_;have NB540_533:=n10_;clear n0_ n1_ n2_ n3_ n4_ n5_ n6_ n7_ n8_ n9_ n10_;clear hb hbox hg;have hnb22:=NB540_532.out;have hnc22:=NB532_540.out;have hnb23:=NB540_533.out;have hnc23:=NB533_540.out;have hcz24_0:w21.cell? ⟨gb540,0,none⟩=some (.int .i64 0):=(blk_cell BK540.out 0).trans rfl;have hcz24_1:w21.cell? ⟨gb540,1,none⟩=some (.int .i64 0):=(blk_cell BK540.out 1).trans rfl;have hfz24_0:=blk_frozen BK540.out 0;have hfz24_1:=blk_frozen BK540.out 1;have hnb25:=NB532_533.out;have hnc25:=NB533_532.out;have hcz26_0:w21.cell? ⟨gb532,0,none⟩=some (.string a0_0):=(blk_cell BK532.out 0).trans rfl;have hcz26_1:w21.cell? ⟨gb532,1,none⟩=some (.int .i64 a0_1):=(blk_cell BK532.out 1).trans rfl;have hfz26_0:=blk_frozen BK532.out 0;have hfz26_1:=blk_frozen BK532.out 1;have hcz27_0:w21.cell? ⟨gb533,0,none⟩=some (.string (⟨#[]⟩:ByteArray)):=(blk_cell BK533.out 0).trans rfl;have hcz27_1:w21.cell? ⟨gb533,1,none⟩=some (.int .i64 0):=(blk_cell BK533.out 1).trans rfl;have hcz27_2:w21.cell? ⟨gb533,2,none⟩=some (.int .i64 0):=(blk_cell BK533.out 2).trans rfl;have hfz27_0:=blk_frozen BK533.out 0;have hfz27_1:=blk_frozen BK533.out 1;have hfz27_2:=blk_frozen BK533.out 2))
       refine bodyPost_ret (results_cell_row rfl _ _ gb533 85 #[.string a0_0,.int .i64 (wrap64 (a0_1+t539)),.int .i64 t538] (0,0) _ rfl (by (with_reducible repeat (first|refine blk_drewN ?_ _|refine blk_drew ?_|refine blk_alloc ?_ _));refine blk_put (cs:=#[.string a0_0,.int .i64 (wrap64 (a0_1+t539)),.int .i64 0]) ?_ 2 _ rfl;(with_reducible repeat (first|refine blk_drewN ?_ _|refine blk_drew ?_|refine blk_alloc ?_ _));refine blk_put (cs:=#[.string a0_0,.int .i64 0,.int .i64 0]) ?_ 1 _ rfl;(with_reducible repeat (first|refine blk_drewN ?_ _|refine blk_drew ?_|refine blk_alloc ?_ _));refine blk_put (cs:=#[.string (⟨#[]⟩:ByteArray),.int .i64 0,.int .i64 0]) ?_ 0 _ rfl;(with_reducible repeat (first|refine blk_drewN ?_ _|refine blk_drew ?_|refine blk_alloc ?_ _));refine blk_far ?_ NB533_540.out _;(with_reducible repeat (first|refine blk_drewN ?_ _|refine blk_drew ?_|refine blk_alloc ?_ _));refine blk_far ?_ NB533_540.out _;(with_reducible repeat (first|refine blk_drewN ?_ _|refine blk_drew ?_|refine blk_alloc ?_ _));exact BK533.out) Try.underlying85 rfl (by kernel_rfl)) rfl ?_
       exact ⟨by first|rfl|(simp [errW_none,errW_some] <;> rfl)|(simp [*,errW_none,errW_some] <;> rfl),by repeat (first|(with_reducible first|exact HB.out|apply below_alloc|apply pw_below_drewN|apply below_drew1|refine below_set ?_ GE532.out|refine below_set ?_ GE533.out|refine below_set ?_ GE540.out)|exact HB.out)⟩
end Go.Proofs.Ytelcaepenfjloaa.Print
/-! #### Pr71 -/
namespace Go.Proofs.Ytelcaepenfjloaa.Print
open Go.RowKit Go.Proofs.YtelcaepenfjloaaW.PrintWords Go.Proofs.YtelcaepenfjloaaW.PrintLast Go.Proofs.YtelcaepenfjloaaW.PrintMore
attribute [local go_sem] max2_int min2_int max_two min_two max_three min_three max_four min_four
set_option linter.unusedVariables false
set_option linter.unusedSimpArgs false
/-! ### mosaicref04_Gen_Pick: function 71 -/
mutual
def mosaicref04_Gen_Pick.j0:Nat→Int→Int→Bool→ByteArray→Int→Option (ByteArray×Int×List Int)
 | 0,_,_,_,_,_=>none
 | k+1,x1,x2,x28,x542000,x542001=>if x28=true then (some (x542000,x542001,([]:List Int))) else (mosaicref04_Gen_Pick.l0 k x1 x2 ([]:List Int) 0 x542000 x542001)
def mosaicref04_Gen_Pick.l0:Nat→Int→Int→List Int→Int→ByteArray→Int→Option (ByteArray×Int×List Int)
 | 0,_,_,_,_,_,_=>none
 | k+1,x1,x2,x7,x8,x542000,x542001=>if x8 < x1 then (if x7.length < 17592186044416 then (mosaicref04_Gen_Pick.l0 k x1 x2 (x7 ++ [x8]) (wrap64 (x8+1)) x542000 x542001) else (none)) else (mosaicref04_Gen_Pick.l1 k x1 x2 x7 0 x542000 x542001 ([]:List Int))
def mosaicref04_Gen_Pick.l1:Nat→Int→Int→List Int→Int→ByteArray→Int→List Int→Option (ByteArray×Int×List Int)
 | 0,_,_,_,_,_,_,_=>none
 | k+1,x1,x2,x7,x10,x547000,x547001,x547002=>if x10 < x2 then ((mosaicref04_Gen_Below.f k x547000 x547001 (wrap64 (x1 - x10))).bind fun bt547=>(if 0≤x10 then (if x10 < (x7.length:Int) then (if 0≤(wrap64 (x10+bt547.2.2)) then (if (wrap64 (x10+bt547.2.2)) < (x7.length:Int) then ((some ((x7.set (x10:Int).toNat (rd x7 (wrap64 (x10+bt547.2.2)))).set ((wrap64 (x10+bt547.2.2)):Int).toNat (rd x7 x10):List Int)).bind fun y554=>(if x547002.length < 17592186044416 then (mosaicref04_Gen_Pick.l1 k x1 x2 y554 (wrap64 (x10+1)) bt547.1 bt547.2.1 (x547002 ++ [rd y554 x10])) else (none))) else (none)) else (none)) else (none)) else (none))) else (some (x547000,x547001,x547002))
end
def mosaicref04_Gen_Pick.f (k:Nat) (a0_0:ByteArray) (a0_1:Int) (a1:Int) (a2:Int):Option (ByteArray×Int×List Int):=if a1 < 0 then (mosaicref04_Gen_Pick.j0 k a1 a2 true a0_0 a0_1) else (if a1 > 4096 then (mosaicref04_Gen_Pick.j0 k a1 a2 true a0_0 a0_1) else (if a2 < 0 then (mosaicref04_Gen_Pick.j0 k a1 a2 true a0_0 a0_1) else (mosaicref04_Gen_Pick.j0 k a1 a2 (decide (a2 > a1)) a0_0 a0_1)))
theorem mosaicref04_Gen_Pick.mono_l:∀ k,(∀ y0 y1 y2 y3 y4,LeO (mosaicref04_Gen_Pick.j0 k y0 y1 y2 y3 y4) (mosaicref04_Gen_Pick.j0 (k+1) y0 y1 y2 y3 y4))∧(∀ y0 y1 y2 y3 y4 y5,LeO (mosaicref04_Gen_Pick.l0 k y0 y1 y2 y3 y4 y5) (mosaicref04_Gen_Pick.l0 (k+1) y0 y1 y2 y3 y4 y5))∧(∀ y0 y1 y2 y3 y4 y5 y6,LeO (mosaicref04_Gen_Pick.l1 k y0 y1 y2 y3 y4 y5 y6) (mosaicref04_Gen_Pick.l1 (k+1) y0 y1 y2 y3 y4 y5 y6))
 | 0=>⟨fun _ _ _ _ _ r h=>by simp [mosaicref04_Gen_Pick.j0] at h,fun _ _ _ _ _ _ r h=>by simp [mosaicref04_Gen_Pick.l0] at h,fun _ _ _ _ _ _ _ r h=>by simp [mosaicref04_Gen_Pick.l1] at h⟩
 | k+1=>by
  obtain ⟨ih0,ih1,ih2⟩:=mosaicref04_Gen_Pick.mono_l k
  refine ⟨?_,?_,?_⟩
  ·
   intro y0 y1 y2 y3 y4
   unfold mosaicref04_Gen_Pick.j0
   repeat' first
   | (with_reducible exact ih0 _ _ _ _ _)
   | (with_reducible exact ih1 _ _ _ _ _ _)
   | (with_reducible exact ih2 _ _ _ _ _ _ _)
   | (with_reducible exact mosaicref04_Gen_Below.mono _ _ _ _)
   | (with_reducible exact LeO.refl _)
   | (with_reducible exact LeO.none _)
   | (with_reducible refine LeO.ite ?_ ?_)
   | (with_reducible refine LeO.bind ?_ (fun _=>?_))
   | exact ih0 _ _ _ _ _
   | exact ih1 _ _ _ _ _ _
   | exact ih2 _ _ _ _ _ _ _
   | exact mosaicref04_Gen_Below.mono _ _ _ _
   | exact LeO.none _
   | refine LeO.ite ?_ ?_
   | refine LeO.bind ?_ (fun _=>?_)
  ·
   intro y0 y1 y2 y3 y4 y5
   unfold mosaicref04_Gen_Pick.l0
   repeat' first
   | (with_reducible exact ih0 _ _ _ _ _)
   | (with_reducible exact ih1 _ _ _ _ _ _)
   | (with_reducible exact ih2 _ _ _ _ _ _ _)
   | (with_reducible exact mosaicref04_Gen_Below.mono _ _ _ _)
   | (with_reducible exact LeO.refl _)
   | (with_reducible exact LeO.none _)
   | (with_reducible refine LeO.ite ?_ ?_)
   | (with_reducible refine LeO.bind ?_ (fun _=>?_))
   | exact ih0 _ _ _ _ _
   | exact ih1 _ _ _ _ _ _
   | exact ih2 _ _ _ _ _ _ _
   | exact mosaicref04_Gen_Below.mono _ _ _ _
   | exact LeO.none _
   | refine LeO.ite ?_ ?_
   | refine LeO.bind ?_ (fun _=>?_)
  ·
   intro y0 y1 y2 y3 y4 y5 y6
   unfold mosaicref04_Gen_Pick.l1
   repeat' first
   | (with_reducible exact ih0 _ _ _ _ _)
   | (with_reducible exact ih1 _ _ _ _ _ _)
   | (with_reducible exact ih2 _ _ _ _ _ _ _)
   | (with_reducible exact mosaicref04_Gen_Below.mono _ _ _ _)
   | (with_reducible exact LeO.refl _)
   | (with_reducible exact LeO.none _)
   | (with_reducible refine LeO.ite ?_ ?_)
   | (with_reducible refine LeO.bind ?_ (fun _=>?_))
   | exact ih0 _ _ _ _ _
   | exact ih1 _ _ _ _ _ _
   | exact ih2 _ _ _ _ _ _ _
   | exact mosaicref04_Gen_Below.mono _ _ _ _
   | exact LeO.none _
   | refine LeO.ite ?_ ?_
   | refine LeO.bind ?_ (fun _=>?_)
theorem mosaicref04_Gen_Pick.mono:∀ a0 a1 a2 a3 k,LeO (mosaicref04_Gen_Pick.f k a0 a1 a2 a3) (mosaicref04_Gen_Pick.f (k+1) a0 a1 a2 a3):=by
 intro a0 a1 a2 a3 k
 obtain ⟨ih0,ih1,ih2⟩:=mosaicref04_Gen_Pick.mono_l k
 unfold mosaicref04_Gen_Pick.f
 repeat' first
   | (with_reducible exact ih0 _ _ _ _ _)
   | (with_reducible exact ih1 _ _ _ _ _ _)
   | (with_reducible exact ih2 _ _ _ _ _ _ _)
   | (with_reducible exact mosaicref04_Gen_Below.mono _ _ _ _)
   | (with_reducible exact LeO.refl _)
   | (with_reducible exact LeO.none _)
   | (with_reducible refine LeO.ite ?_ ?_)
   | (with_reducible refine LeO.bind ?_ (fun _=>?_))
   | exact ih0 _ _ _ _ _
   | exact ih1 _ _ _ _ _ _
   | exact ih2 _ _ _ _ _ _ _
   | exact mosaicref04_Gen_Below.mono _ _ _ _
   | exact LeO.none _
   | refine LeO.ite ?_ ?_
   | refine LeO.bind ?_ (fun _=>?_)
def mosaicref04_Gen_Pick.T18:Bool×List (List Nat×List Nat):=(true,[([],[]),([0],[0]),([],[]),([],[]),([2,3],[2,3]),([4],[4]),([5],[5]),([1,6],[1,6]),([0,1,2,3,4,5,6,7],[]),([8,7,7,0,1,2,3,4,5,6,7],[7,8])])
def mosaicref04_Gen_Pick.B18:List Nat:=[0,1,0,0,12,28,60,127,255,511]
theorem mosaicref04_Gen_Pick.tab18:rtab .any (opsOf Try.f71 18)=mosaicref04_Gen_Pick.T18:=by kernel_rfl
theorem mosaicref04_Gen_Pick.bits18:waitsOk mosaicref04_Gen_Pick.T18.2 mosaicref04_Gen_Pick.B18=true:=by kernel_rfl
set_option maxHeartbeats 8000000 in
set_option maxRecDepth 100000 in
theorem mosaicref04_Gen_Pick.calls (k:Nat) (a0_0:ByteArray) (a0_1:Int) (a1:Int) (a2:Int) (r1:ByteArray) (r2:Int) (r3:List Int) (w:World) (h:mosaicref04_Gen_Pick.f k a0_0 a0_1 a1 a2=some (r1,r2,r3)) :
  Calls Try.prog 71 #[.agg #[.string a0_0,.int .i64 a0_1],.int .i64 a1,.int .i64 a2] w fun e w'=>∃ v2_:Value,e=.returned (.agg #[.string r1,.int .i64 r2,v2_])∧Kd.R (Kd.int .i64) 3 w' w.heap.size (fun _=>True) v2_ r3∧Below w.heap.size w w':=by
 have hu83:=Try.underlying83
 have hu94:=Try.underlying94
 have hu85:=Try.underlying85
 have HB:=Aside0.mk (Below.refl w.heap.size w)
 have H:(if a1 < 0 then (mosaicref04_Gen_Pick.j0 k a1 a2 true a0_0 a0_1) else (if a1 > 4096 then (mosaicref04_Gen_Pick.j0 k a1 a2 true a0_0 a0_1) else (if a2 < 0 then (mosaicref04_Gen_Pick.j0 k a1 a2 true a0_0 a0_1) else (mosaicref04_Gen_Pick.j0 k a1 a2 (decide (a2 > a1)) a0_0 a0_1))))=some (r1,r2,r3):=h
 clear h
 have HC4:=Aside0.mk H
 clear H
 go_enter Try.func71,Try.ntmps71
 go_upto_region 1 with (first|((with_reducible refine gate_dst (N:=3) rfl ?_);refine box_event ?hg (N:=3) ?hd (cs:=#[.string a0_0,.int .i64 a0_1]) (t:=83) ?hr ?_;(case hd=>rfl);(case hg=>rfl);(case hr=>first|(go_simp;done)|(go_simp;rfl));intro gb541 hg w5 hbox hb;have n0_:=Aside0.mk (below_step (by repeat (first|(with_reducible first|exact HB.out|apply below_alloc|apply pw_below_drewN|apply below_drew1)|exact HB.out)) hb);have n1_:=Aside0.mk (hbox);have n2_:=Aside0.mk ((by rw [hg];exact (below_size (by repeat (first|(with_reducible first|exact HB.out|apply below_alloc|apply pw_below_drewN|apply below_drew1)|exact HB.out))):w.heap.size≤gb541));have n3_:=Aside0.mk ((by rw [hg];exact (below_size (by repeat (first|(with_reducible first|exact HB.out|apply below_alloc|apply pw_below_drewN|apply below_drew1)|exact HB.out))):w.heap.size≤gb541));clear HB;have HB:=n0_;have BK541:=n1_;have GW541:=n2_;have GE541:=n3_;clear n0_ n1_ n2_ n3_;clear hb hbox hg)|((with_reducible refine gate_dst (N:=6) rfl ?_);refine box_event ?hg (N:=6) ?hd (cs:=#[.string (⟨#[]⟩:ByteArray),.int .i64 0,.slice none 0 0]) (t:=94) ?hr ?_;(case hd=>rfl);(case hg=>rfl);(case hr=>first|(go_simp;done)|(go_simp;rfl));intro gb542 hg w6 hbox hb;have n0_:=Aside0.mk (blk_below (g:=gb541) (o:=.cells #[.string a0_0,.int .i64 a0_1] 83 (0,0)) (by (with_reducible repeat (first|refine blk_drewN ?_ _|refine blk_drew ?_|refine blk_alloc ?_ _));exact BK541.out) hb);have n1_:=Aside0.mk (below_step (by repeat (first|(with_reducible first|exact HB.out|apply below_alloc|apply pw_below_drewN|apply below_drew1|refine below_set ?_ GE541.out)|exact HB.out)) hb);have n2_:=Aside0.mk (hbox);have n3_:=Aside0.mk ((by rw [hg];exact (below_size (by repeat (first|(with_reducible first|exact HB.out|apply below_alloc|apply pw_below_drewN|apply below_drew1|refine below_set ?_ GE541.out)|exact HB.out))):w.heap.size≤gb542));have n4_:=Aside0.mk ((by rw [hg];exact (below_size (by repeat (first|(with_reducible first|exact HB.out|apply below_alloc|apply pw_below_drewN|apply below_drew1|refine below_set ?_ GE541.out)|exact HB.out))):w.heap.size≤gb542));have n5_:=Aside0.mk ((by rw [hg];exact Nat.ne_of_lt (blk_lt (g:=gb541) (o:=.cells #[.string a0_0,.int .i64 a0_1] 83 (0,0)) (by (with_reducible repeat (first|refine blk_drewN ?_ _|refine blk_drew ?_|refine blk_alloc ?_ _));exact BK541.out)):gb541≠gb542));have n6_:=Aside0.mk ((by rw [hg];exact Nat.ne_of_gt (blk_lt (g:=gb541) (o:=.cells #[.string a0_0,.int .i64 a0_1] 83 (0,0)) (by (with_reducible repeat (first|refine blk_drewN ?_ _|refine blk_drew ?_|refine blk_alloc ?_ _));exact BK541.out)):gb542≠gb541));clear BK541;clear HB;have BK541:=n0_;have HB:=n1_;have BK542:=n2_;have GW542:=n3_;have GE542:=n4_;have NB541_542:=n5_;have NB542_541:=n6_;clear n0_ n1_ n2_ n3_ n4_ n5_ n6_;clear hb hbox hg))
 (try simp only [Act.put,List.setIfInBounds_toArray,List.set_cons_zero,List.set_cons_succ])
 go_cut [28] (fun v28 wc=>∃ (kq:Nat) (x28_3:Bool),v28=.bool x28_3∧Aside0 (mosaicref04_Gen_Pick.j0 kq a1 a2 x28_3 a0_0 a0_1=some (r1,r2,r3))∧Aside0 (kq≤k)∧Aside0 (wc.heap[gb541]?=some (.cells #[.string a0_0,.int .i64 a0_1] 83 (0,0)))∧Aside0 (wc.heap[gb542]?=some (.cells #[.string (⟨#[]⟩:ByteArray),.int .i64 0,(.slice none 0 0)] 94 (0,0)))∧Aside0 (Below w.heap.size w wc))
 case first =>
  have H:=HC4.out
  clear HC4
  by_cases c7:a1 < 0
  ·
   rw [if_pos c7] at H
   have c7b0:decide (a1 < 0)=true:=decide_eq_true c7
   clear c7
   (first|rw [c7b0]|(simp only [i64_w,i32_w];rw [c7b0])|skip)
   have H':=Aside0.mk H
   clear H
   go_wp2
   go_meet
   case rel=>exact ⟨_,(true),(by first|rfl|(simp;done)|(simp [*];done)),H',⟨by first|omega|exact Nat.le_refl _⟩,⟨by (with_reducible repeat (first|refine blk_drewN ?_ _|refine blk_drew ?_|refine blk_alloc ?_ _));exact BK541.out⟩,⟨by (with_reducible repeat (first|refine blk_drewN ?_ _|refine blk_drew ?_|refine blk_alloc ?_ _));exact BK542.out⟩,⟨by repeat (first|(with_reducible first|exact HB.out|apply below_alloc|apply pw_below_drewN|apply below_drew1|refine below_set ?_ GE541.out|refine below_set ?_ GE542.out)|exact HB.out)⟩⟩
  ·
   rw [if_neg c7] at H
   have c7b0:decide (a1 < 0)=false:=decide_eq_false c7
   clear c7
   (first|rw [c7b0]|(simp only [i64_w,i32_w];rw [c7b0])|skip)
   by_cases c8:a1 > 4096
   ·
    rw [if_pos c8] at H
    have c8b0:decide (4096 < a1)=true:=decide_eq_true c8
    clear c8
    have H':=Aside0.mk H
    clear H
    go_wp2
    go_meet
    case rel=>exact ⟨_,(true),(by first|rfl|(simp;done)|(simp [*];done)),H',⟨by first|omega|exact Nat.le_refl _⟩,⟨by (with_reducible repeat (first|refine blk_drewN ?_ _|refine blk_drew ?_|refine blk_alloc ?_ _));exact BK541.out⟩,⟨by (with_reducible repeat (first|refine blk_drewN ?_ _|refine blk_drew ?_|refine blk_alloc ?_ _));exact BK542.out⟩,⟨by repeat (first|(with_reducible first|exact HB.out|apply below_alloc|apply pw_below_drewN|apply below_drew1|refine below_set ?_ GE541.out|refine below_set ?_ GE542.out)|exact HB.out)⟩⟩
   ·
    rw [if_neg c8] at H
    have c8b0:decide (4096 < a1)=false:=decide_eq_false c8
    clear c8
    by_cases c9:a2 < 0
    ·
     rw [if_pos c9] at H
     have c9b0:decide (a2 < 0)=true:=decide_eq_true c9
     clear c9
     have H':=Aside0.mk H
     clear H
     go_wp2
     go_meet
     case rel=>exact ⟨_,(true),(by first|rfl|(simp;done)|(simp [*];done)),H',⟨by first|omega|exact Nat.le_refl _⟩,⟨by (with_reducible repeat (first|refine blk_drewN ?_ _|refine blk_drew ?_|refine blk_alloc ?_ _));exact BK541.out⟩,⟨by (with_reducible repeat (first|refine blk_drewN ?_ _|refine blk_drew ?_|refine blk_alloc ?_ _));exact BK542.out⟩,⟨by repeat (first|(with_reducible first|exact HB.out|apply below_alloc|apply pw_below_drewN|apply below_drew1|refine below_set ?_ GE541.out|refine below_set ?_ GE542.out)|exact HB.out)⟩⟩
    ·
     rw [if_neg c9] at H
     have c9b0:decide (a2 < 0)=false:=decide_eq_false c9
     clear c9
     have H':=Aside0.mk H
     clear H
     go_wp2
     go_meet
     case rel=>exact ⟨_,(decide (a2 > a1)),(by first|rfl|(simp;done)|(simp [*];done)),H',⟨by first|omega|exact Nat.le_refl _⟩,⟨by (with_reducible repeat (first|refine blk_drewN ?_ _|refine blk_drew ?_|refine blk_alloc ?_ _));exact BK541.out⟩,⟨by (with_reducible repeat (first|refine blk_drewN ?_ _|refine blk_drew ?_|refine blk_alloc ?_ _));exact BK542.out⟩,⟨by repeat (first|(with_reducible first|exact HB.out|apply below_alloc|apply pw_below_drewN|apply below_drew1|refine below_set ?_ GE541.out|refine below_set ?_ GE542.out)|exact HB.out)⟩⟩
 case rest =>
  clear HC4
  try clear p2
  try clear c7
  try clear c7b0
  try clear c8
  try clear c8b0
  try clear c9
  try clear c9b0
  obtain ⟨kq,x28_3,rfl,HA,HJ3,BK541,BK542,HB⟩:=hcut
  cases kq with
  | zero=>exact absurd HA.out (by simp [mosaicref04_Gen_Pick.j0])
  | succ kj3 =>
   have H:=HA.out
   clear HA
   simp only [mosaicref04_Gen_Pick.j0] at H
   by_cases c10:x28_3=true
   ·
    subst c10
    have H1:(some (a0_0,a0_1,([]:List Int)))=some (r1,r2,r3):=by rw [if_pos rfl] at H;exact H
    clear H
    have H:=H1
    clear H1
    simp only [Option.some.injEq,Prod.mk.injEq] at H
    obtain ⟨rfl,rfl,rfl⟩:=H
    have hnb11:=NB541_542.out
    have hnc11:=NB542_541.out
    have hcz12_0:wc.cell? ⟨gb541,0,none⟩=some (.string a0_0):=(blk_cell BK541.out 0).trans rfl
    have hcz12_1:wc.cell? ⟨gb541,1,none⟩=some (.int .i64 a0_1):=(blk_cell BK541.out 1).trans rfl
    have hfz12_0:=blk_frozen BK541.out 0
    have hfz12_1:=blk_frozen BK541.out 1
    have hcz13_0:wc.cell? ⟨gb542,0,none⟩=some (.string (⟨#[]⟩:ByteArray)):=(blk_cell BK542.out 0).trans rfl
    have hcz13_1:wc.cell? ⟨gb542,1,none⟩=some (.int .i64 0):=(blk_cell BK542.out 1).trans rfl
    have hcz13_2:wc.cell? ⟨gb542,2,none⟩=some (.slice none 0 0):=(blk_cell BK542.out 2).trans rfl
    have hfz13_0:=blk_frozen BK542.out 0
    have hfz13_1:=blk_frozen BK542.out 1
    have hfz13_2:=blk_frozen BK542.out 2
    go_wp2
    refine bodyPost_ret (results_cell_row rfl _ _ gb542 94 #[.string a0_0,.int .i64 a0_1,.slice none 0 0] (0,0) _ rfl (by (with_reducible repeat (first|refine blk_drewN ?_ _|refine blk_drew ?_|refine blk_alloc ?_ _));refine blk_put (cs:=#[.string a0_0,.int .i64 a0_1,.slice none 0 0]) ?_ 2 _ rfl;(with_reducible repeat (first|refine blk_drewN ?_ _|refine blk_drew ?_|refine blk_alloc ?_ _));refine blk_put (cs:=#[.string a0_0,.int .i64 0,.slice none 0 0]) ?_ 1 _ rfl;(with_reducible repeat (first|refine blk_drewN ?_ _|refine blk_drew ?_|refine blk_alloc ?_ _));refine blk_put (cs:=#[.string (⟨#[]⟩:ByteArray),.int .i64 0,.slice none 0 0]) ?_ 0 _ rfl;(with_reducible repeat (first|refine blk_drewN ?_ _|refine blk_drew ?_|refine blk_alloc ?_ _));exact BK542.out) Try.underlying94 rfl (by kernel_rfl)) rfl ?_
    exact ⟨_,by first|rfl|(simp [errW_none,errW_some] <;> rfl)|(simp [*,errW_none,errW_some] <;> rfl),by first|exact Kd.R_nil _ _ _ _ _|exact Kd.N_nil _ _ _ _ _|exact Kd.V_nil _ _ _ _ _|exact Kd.Q_nil _ _ _ _ _|exact Kd.S_nil _ _ _ _ _,by repeat (first|(with_reducible first|exact HB.out|apply below_alloc|apply pw_below_drewN|apply below_drew1|refine below_set ?_ GE541.out|refine below_set ?_ GE542.out)|exact HB.out)⟩
   ·
    replace c10:=Bool.eq_false_iff.mpr c10
    subst c10
    have H1:(mosaicref04_Gen_Pick.l0 kj3 a1 a2 ([]:List Int) 0 a0_0 a0_1)=some (r1,r2,r3):=by rw [if_neg (show ¬ (false=true) by decide)] at H;exact H
    clear H
    have H:=H1
    clear H1
    have H':=Aside0.mk H
    clear H
    go_wp2
    go_loopg [7,8] kj3 (fun kq v7 v8 w'=>∃ (x7_2:List Int) (x8_2:Int),v8=.int .i64 x8_2∧Aside0 (mosaicref04_Gen_Pick.l0 kq a1 a2 x7_2 x8_2 a0_0 a0_1=some (r1,r2,r3))∧Aside0 (kq≤kj3)∧Aside0 (Kd.R (Kd.int .i64) 3 w' w.heap.size (fun _=>True) v7 x7_2)∧Aside0 (w'.heap[gb541]?=some (.cells #[.string a0_0,.int .i64 a0_1] 83 (0,0)))∧Aside0 (w'.heap[gb542]?=some (.cells #[.string (⟨#[]⟩:ByteArray),.int .i64 0,(.slice none 0 0)] 94 (0,0)))∧Aside0 (Below w.heap.size w w'))
    case atStart=>exact ⟨(([]:List Int)),(0),(by first|rfl|(simp;done)|(simp [*];done)),H',⟨Nat.le_refl _⟩,⟨by first|exact Kd.R_nil _ _ _ _ _|exact Kd.N_nil _ _ _ _ _|exact Kd.V_nil _ _ _ _ _|exact Kd.Q_nil _ _ _ _ _|exact Kd.S_nil _ _ _ _ _⟩,⟨by (with_reducible repeat (first|refine blk_drewN ?_ _|refine blk_drew ?_|refine blk_alloc ?_ _));exact BK541.out⟩,⟨by (with_reducible repeat (first|refine blk_drewN ?_ _|refine blk_drew ?_|refine blk_alloc ?_ _));exact BK542.out⟩,⟨by repeat (first|(with_reducible first|exact HB.out|apply below_alloc|apply pw_below_drewN|apply below_drew1|refine below_set ?_ GE541.out|refine below_set ?_ GE542.out)|exact HB.out)⟩⟩
    case round =>
     clear H'
     try clear c1
     try clear p2
     try clear c7
     try clear c7b0
     try clear c8
     try clear c8b0
     try clear c9
     try clear c9b0
     try clear c10
     try clear c11
     try clear hcz12_0
     try clear hcz12_1
     try clear hcz13_0
     try clear hcz13_1
     try clear hcz13_2
     try clear hfz12_0
     try clear hfz12_1
     try clear hfz13_0
     try clear hfz13_1
     try clear hfz13_2
     try clear p2
     obtain ⟨x7_2,x8_2,rfl,HA,HK2,HO_7,BK541,BK542,HB⟩:=hrel
     cases gk with
     | zero=>exact absurd HA.out (by simp [mosaicref04_Gen_Pick.l0])
     | succ k2 =>
      have H:=HA.out
      clear HA
      simp only [mosaicref04_Gen_Pick.l0] at H
      by_cases c14:x8_2 < a1
      ·
       rw [if_pos c14] at H
       have c14b0:decide (x8_2 < a1)=true:=decide_eq_true c14
       clear c14
       by_cases c15:x7_2.length < 17592186044416
       ·
        rw [if_pos c15] at H
        have LMc15:=Aside0.mk c15
        clear c15
        obtain ⟨y543,hy543⟩:∃ y_:List Int,y_=(x7_2 ++ [x8_2]):=⟨_,rfl⟩
        replace H:(mosaicref04_Gen_Pick.l0 k2 a1 a2 y543 (wrap64 (x8_2+1)) a0_0 a0_1)=some (r1,r2,r3):=by first|(rw [hy543];with_reducible exact H)|(have H2_:=(Option.bind_some _ _).symm.trans H;rw [hy543];with_reducible exact H2_)|(have H2_:=(Option.bind_some _ _).symm.trans H;with_reducible exact H2_)|with_reducible exact H|(rw [hy543];exact H)|exact H
        have Ny543:=Aside0.mk hy543
        clear hy543
        have H':=Aside0.mk H
        clear H
        go_wp2_with (first|((with_reducible refine gate_builtin (b:=.append) (xs:=#[.tmp 36,.tmp 38]) rfl ?_);at_builtin;refine Kd.R_append (Kd.int .i64) (w0:=w) w.heap.size rfl (.tmp 36) (.tmp 38) 77 3 (.int .i64 0) 8 rfl Try.underlying77 info3 rfl (by decide) (by omega) u7 x7_2 x8_2 [.int .i64 x8_2] (fun _=>True) (fun _=>False) rfl rfl ?aP (fun _ hk=>hk.elim) ?aF ?aO ?aB ?aS ?aL ?_;(case aP=>exact rfl);(case aB=>exact (by repeat (first|(with_reducible first|exact HB.out|apply below_alloc|apply pw_below_drewN|apply below_drew1|refine below_set ?_ GE541.out|refine below_set ?_ GE542.out)|exact HB.out)));(case aF=>exact (fun _ _=>trivial));(case aO=>exact (by (with_reducible repeat (first|apply Kd.R_alloc|apply Kd.R_drewN|apply Kd.R_drew));exact HO_7.out));(case aS=>exact (below_size (by repeat (first|(with_reducible first|exact HB.out|apply below_alloc|apply pw_below_drewN|apply below_drew1|refine below_set ?_ GE541.out|refine below_set ?_ GE542.out)|exact HB.out))));(case aL=>have:=LMc15.out;omega);intro v544 w16 ho hb hg hat;rw [← Ny543.out] at ho;have n0_:=Aside0.mk (blk_grown (g:=gb541) (o:=.cells #[.string a0_0,.int .i64 a0_1] 83 (0,0)) (by (with_reducible repeat (first|refine blk_drewN ?_ _|refine blk_drew ?_|refine blk_alloc ?_ _));exact BK541.out) hg (Kd.R_ne HO_7.out BK541.out (by decide)));have n1_:=Aside0.mk (blk_grown (g:=gb542) (o:=.cells #[.string (⟨#[]⟩:ByteArray),.int .i64 0,.slice none 0 0] 94 (0,0)) (by (with_reducible repeat (first|refine blk_drewN ?_ _|refine blk_drew ?_|refine blk_alloc ?_ _));exact BK542.out) hg (Kd.R_ne HO_7.out BK542.out (by decide)));have n2_:=Aside0.mk (hb);have n3_:=Aside0.mk (ho);clear BK541;clear BK542;clear HB;clear HO_7;have BK541:=n0_;have BK542:=n1_;have HB:=n2_;have HO545:=n3_;clear n0_ n1_ n2_ n3_;clear ho hb hg hat))
        go_roundg k2
        case measure=>have:=HJ3.out;have:=HK2.out;omega
        case rel=>exact ⟨(y543),(wrap64 (x8_2+1)),(by first|rfl|(simp;done)|(simp [*];done)),H',⟨by have:=HJ3.out;have:=HK2.out;omega⟩,⟨by (with_reducible repeat (first|apply Kd.R_alloc|apply Kd.R_drewN|apply Kd.R_drew));exact HO545.out⟩,⟨by (with_reducible repeat (first|refine blk_drewN ?_ _|refine blk_drew ?_|refine blk_alloc ?_ _));exact BK541.out⟩,⟨by (with_reducible repeat (first|refine blk_drewN ?_ _|refine blk_drew ?_|refine blk_alloc ?_ _));exact BK542.out⟩,⟨by repeat (first|(with_reducible first|exact HB.out|apply below_alloc|apply pw_below_drewN|apply below_drew1|refine below_set ?_ GE541.out|refine below_set ?_ GE542.out)|exact HB.out)⟩⟩
       ·
        rw [if_neg c15] at H
        exact absurd H (by simp)
      ·
       rw [if_neg c14] at H
       have c14b0:decide (x8_2 < a1)=false:=decide_eq_false c14
       clear c14
       have H':=Aside0.mk H
       clear H
       have hnb17:=NB541_542.out
       have hnc17:=NB542_541.out
       have hcz18_0:wr.cell? ⟨gb541,0,none⟩=some (.string a0_0):=(blk_cell BK541.out 0).trans rfl
       have hcz18_1:wr.cell? ⟨gb541,1,none⟩=some (.int .i64 a0_1):=(blk_cell BK541.out 1).trans rfl
       have hfz18_0:=blk_frozen BK541.out 0
       have hfz18_1:=blk_frozen BK541.out 1
       go_wp2_with (first|((with_reducible refine gate_dst (N:=9) rfl ?_);refine box_event ?hg (N:=9) ?hd (cs:=#[.string (⟨#[]⟩:ByteArray),.int .i64 0,.slice none 0 0]) (t:=94) ?hr ?_;(case hd=>rfl);(case hg=>rfl);(case hr=>first|(go_simp;done)|(go_simp;rfl));intro gb546 hg w19 hbox hb;have n0_:=Aside0.mk (Kd.R_below (by (with_reducible repeat (first|apply Kd.R_alloc|apply Kd.R_drewN|apply Kd.R_drew));exact HO_7.out) hb);have n1_:=Aside0.mk (blk_below (g:=gb541) (o:=.cells #[.string a0_0,.int .i64 a0_1] 83 (0,0)) (by (with_reducible repeat (first|refine blk_drewN ?_ _|refine blk_drew ?_|refine blk_alloc ?_ _));exact BK541.out) hb);have n2_:=Aside0.mk (blk_below (g:=gb542) (o:=.cells #[.string (⟨#[]⟩:ByteArray),.int .i64 0,.slice none 0 0] 94 (0,0)) (by (with_reducible repeat (first|refine blk_drewN ?_ _|refine blk_drew ?_|refine blk_alloc ?_ _));exact BK542.out) hb);have n3_:=Aside0.mk (below_step (by repeat (first|(with_reducible first|exact HB.out|apply below_alloc|apply pw_below_drewN|apply below_drew1|refine below_set ?_ GE541.out|refine below_set ?_ GE542.out)|exact HB.out)) hb);have n4_:=Aside0.mk (hbox);have n5_:=Aside0.mk ((by rw [hg];exact (below_size (by repeat (first|(with_reducible first|exact HB.out|apply below_alloc|apply pw_below_drewN|apply below_drew1|refine below_set ?_ GE541.out|refine below_set ?_ GE542.out)|exact HB.out))):w.heap.size≤gb546));have n6_:=Aside0.mk ((by rw [hg];exact (below_size (by repeat (first|(with_reducible first|exact HB.out|apply below_alloc|apply pw_below_drewN|apply below_drew1|refine below_set ?_ GE541.out|refine below_set ?_ GE542.out)|exact HB.out))):w.heap.size≤gb546));have n7_:=Aside0.mk ((by rw [hg];exact Nat.ne_of_lt (blk_lt (g:=gb541) (o:=.cells #[.string a0_0,.int .i64 a0_1] 83 (0,0)) (by (with_reducible repeat (first|refine blk_drewN ?_ _|refine blk_drew ?_|refine blk_alloc ?_ _));exact BK541.out)):gb541≠gb546));have n8_:=Aside0.mk ((by rw [hg];exact Nat.ne_of_gt (blk_lt (g:=gb541) (o:=.cells #[.string a0_0,.int .i64 a0_1] 83 (0,0)) (by (with_reducible repeat (first|refine blk_drewN ?_ _|refine blk_drew ?_|refine blk_alloc ?_ _));exact BK541.out)):gb546≠gb541));have n9_:=Aside0.mk ((by rw [hg];exact Nat.ne_of_lt (blk_lt (g:=gb542) (o:=.cells #[.string (⟨#[]⟩:ByteArray),.int .i64 0,.slice none 0 0] 94 (0,0)) (by (with_reducible repeat (first|refine blk_drewN ?_ _|refine blk_drew ?_|refine blk_alloc ?_ _));exact BK542.out)):gb542≠gb546));have n10_:=Aside0.mk ((by rw [hg];exact Nat.ne_of_gt (blk_lt (g:=gb542) (o:=.cells #[.string (⟨#[]⟩:ByteArray),.int .i64 0,.slice none 0 0] 94 (0,0)) (by (with_reducible repeat (first|refine blk_drewN ?_ _|refine blk_drew ?_|refine blk_alloc ?_ _));exact BK542.out)):gb546≠gb542));clear HO_7;clear BK541;clear BK542;clear HB;have HO_7:=n0_;have BK541:=n1_;have BK542:=n2_;have HB:=n3_;have BK546:=n4_;have GW546:=n5_;have GE546:=n6_;have NB541_546:=n7_;have NB546_541:=n8_;have NB542_546:=n9_;have NB546_542:=n10_;clear n0_ n1_ n2_ n3_ n4_ n5_ n6_ n7_ n8_ n9_ n10_;clear hb hbox hg;have hnb20:=NB546_541.out;have hnc20:=NB541_546.out;have hnb21:=NB546_542.out;have hnc21:=NB542_546.out;have hcz22_0:w19.cell? ⟨gb546,0,none⟩=some (.string (⟨#[]⟩:ByteArray)):=(blk_cell BK546.out 0).trans rfl;have hcz22_1:w19.cell? ⟨gb546,1,none⟩=some (.int .i64 0):=(blk_cell BK546.out 1).trans rfl;have hcz22_2:w19.cell? ⟨gb546,2,none⟩=some (.slice none 0 0):=(blk_cell BK546.out 2).trans rfl;have hfz22_0:=blk_frozen BK546.out 0;have hfz22_1:=blk_frozen BK546.out 1;have hfz22_2:=blk_frozen BK546.out 2))
       go_loopg [10] k2 (fun kq v10 w'=>∃ (x7_3:List Int) (x10_3:Int) (x547000_3:ByteArray) (x547001_3:Int) (x547002_3:List Int) (u547002:Value),v10=.int .i64 x10_3∧Aside0 (mosaicref04_Gen_Pick.l1 kq a1 a2 x7_3 x10_3 x547000_3 x547001_3 x547002_3=some (r1,r2,r3))∧Aside0 (kq≤k2)∧Aside0 (Kd.R (Kd.int .i64) 3 w' w.heap.size (fun k_=>some k_≠(u547002:Value).ownBlock) u7 x7_3)∧Aside0 (Kd.R (Kd.int .i64) 3 w' w.heap.size (fun k_=>some k_≠(u7:Value).ownBlock) u547002 x547002_3)∧Aside0 (w'.heap[gb541]?=some (.cells #[.string a0_0,.int .i64 a0_1] 83 (0,0)))∧Aside0 (w'.heap[gb542]?=some (.cells #[.string (⟨#[]⟩:ByteArray),.int .i64 0,(.slice none 0 0)] 94 (0,0)))∧Aside0 (w'.heap[gb546]?=some (.cells #[.string x547000_3,.int .i64 x547001_3,u547002] 94 (0,0)))∧Aside0 (Below w.heap.size w w'))
       case atStart=>exact ⟨(x7_2),(0),(a0_0),(a0_1),(([]:List Int)),(.slice none 0 0),(by first|rfl|(simp;done)|(simp [*];done)),H',⟨Nat.le_refl _⟩,⟨by (with_reducible repeat (first|apply Kd.R_alloc|apply Kd.R_drewN|apply Kd.R_drew));exact Kd.R_mono (Kd.R_far (p:=⟨gb546,2,none⟩) (Kd.R_far (p:=⟨gb546,1,none⟩) (Kd.R_far (p:=⟨gb546,0,none⟩) (Kd.R_types HO_7.out BK546.out (by decide)) (fun _ hk=>hk.2) (.string a0_0)) (fun _ hk=>hk.2) (.int .i64 a0_1)) (fun _ hk=>hk.2) (.slice none 0 0)) (fun _ hk=>(by simp [Value.ownBlock]))⟩,⟨by first|exact Kd.R_nil _ _ _ _ _|exact Kd.N_nil _ _ _ _ _|exact Kd.V_nil _ _ _ _ _|exact Kd.Q_nil _ _ _ _ _|exact Kd.S_nil _ _ _ _ _⟩,⟨by (with_reducible repeat (first|refine blk_drewN ?_ _|refine blk_drew ?_|refine blk_alloc ?_ _));refine blk_far ?_ NB541_546.out _;(with_reducible repeat (first|refine blk_drewN ?_ _|refine blk_drew ?_|refine blk_alloc ?_ _));refine blk_far ?_ NB541_546.out _;(with_reducible repeat (first|refine blk_drewN ?_ _|refine blk_drew ?_|refine blk_alloc ?_ _));refine blk_far ?_ NB541_546.out _;(with_reducible repeat (first|refine blk_drewN ?_ _|refine blk_drew ?_|refine blk_alloc ?_ _));exact BK541.out⟩,⟨by (with_reducible repeat (first|refine blk_drewN ?_ _|refine blk_drew ?_|refine blk_alloc ?_ _));refine blk_far ?_ NB542_546.out _;(with_reducible repeat (first|refine blk_drewN ?_ _|refine blk_drew ?_|refine blk_alloc ?_ _));refine blk_far ?_ NB542_546.out _;(with_reducible repeat (first|refine blk_drewN ?_ _|refine blk_drew ?_|refine blk_alloc ?_ _));refine blk_far ?_ NB542_546.out _;(with_reducible repeat (first|refine blk_drewN ?_ _|refine blk_drew ?_|refine blk_alloc ?_ _));exact BK542.out⟩,⟨by (with_reducible repeat (first|refine blk_drewN ?_ _|refine blk_drew ?_|refine blk_alloc ?_ _));refine blk_put (cs:=#[.string a0_0,.int .i64 a0_1,.slice none 0 0]) ?_ 2 _ rfl;(with_reducible repeat (first|refine blk_drewN ?_ _|refine blk_drew ?_|refine blk_alloc ?_ _));refine blk_put (cs:=#[.string a0_0,.int .i64 0,.slice none 0 0]) ?_ 1 _ rfl;(with_reducible repeat (first|refine blk_drewN ?_ _|refine blk_drew ?_|refine blk_alloc ?_ _));refine blk_put (cs:=#[.string (⟨#[]⟩:ByteArray),.int .i64 0,.slice none 0 0]) ?_ 0 _ rfl;(with_reducible repeat (first|refine blk_drewN ?_ _|refine blk_drew ?_|refine blk_alloc ?_ _));exact BK546.out⟩,⟨by repeat (first|(with_reducible first|exact HB.out|apply below_alloc|apply pw_below_drewN|apply below_drew1|refine below_set ?_ GE541.out|refine below_set ?_ GE542.out|refine below_set ?_ GE546.out)|exact HB.out)⟩⟩
       case round =>
        clear H'
        try clear c1
        try clear c2
        try clear p2
        try clear p6
        try clear c7
        try clear c7b0
        try clear c8
        try clear c8b0
        try clear c9
        try clear c9b0
        try clear c10
        try clear c11
        try clear c14
        try clear c14b0
        try clear c15
        try clear c17
        try clear c20
        try clear c21
        try clear hcz12_0
        try clear hcz12_1
        try clear hcz13_0
        try clear hcz13_1
        try clear hcz13_2
        try clear hcz18_0
        try clear hcz18_1
        try clear hcz22_0
        try clear hcz22_1
        try clear hcz22_2
        try clear hfz12_0
        try clear hfz12_1
        try clear hfz13_0
        try clear hfz13_1
        try clear hfz13_2
        try clear hfz18_0
        try clear hfz18_1
        try clear hfz22_0
        try clear hfz22_1
        try clear hfz22_2
        try clear p2
        obtain ⟨x7_3,x10_3,x547000_3,x547001_3,x547002_3,u547002,rfl,HA,HK3,HO_7,HO_547002,BK541,BK542,BK546,HB⟩:=hrel
        cases gk with
        | zero=>exact absurd HA.out (by simp [mosaicref04_Gen_Pick.l1])
        | succ k3 =>
         have H:=HA.out
         clear HA
         simp only [mosaicref04_Gen_Pick.l1] at H
         by_cases c23:x10_3 < a2
         ·
          rw [if_pos c23] at H
          have c23b0:decide (x10_3 < a2)=true:=decide_eq_true c23
          clear c23
          replace H:=Option.bind_eq_some_iff.mp H
          obtain ⟨⟨t547,t548,t549⟩,A240,H⟩:=H
          replace H:(if 0≤x10_3 then (if x10_3 < (x7_3.length:Int) then (if 0≤(wrap64 (x10_3+t549)) then (if (wrap64 (x10_3+t549)) < (x7_3.length:Int) then ((some ((x7_3.set (x10_3:Int).toNat (rd x7_3 (wrap64 (x10_3+t549)))).set ((wrap64 (x10_3+t549)):Int).toNat (rd x7_3 x10_3):List Int)).bind fun y554=>(if x547002_3.length < 17592186044416 then (mosaicref04_Gen_Pick.l1 k3 a1 a2 y554 (wrap64 (x10_3+1)) t547 t548 (x547002_3 ++ [rd y554 x10_3])) else (none))) else (none)) else (none)) else (none)) else (none))=some (r1,r2,r3):=H
          have A24:=Aside0.mk A240
          clear A240
          by_cases c25:0≤x10_3
          ·
           rw [if_pos c25] at H
           have c25b0:decide (0≤x10_3)=true:=decide_eq_true c25
           clear c25
           by_cases c26:x10_3 < (x7_3.length:Int)
           ·
            rw [if_pos c26] at H
            have c26b0:decide (x10_3 < (x7_3.length:Int))=true:=decide_eq_true c26
            clear c26
            obtain ⟨ji27,hji27⟩:∃ j_:Int,(wrap64 (x10_3+t549))=j_:=⟨_,rfl⟩
            replace H:(if 0≤(ji27) then (if (ji27) < (x7_3.length:Int) then ((some ((x7_3.set (x10_3:Int).toNat (rd x7_3 (ji27))).set ((ji27):Int).toNat (rd x7_3 x10_3):List Int)).bind fun y554=>(if x547002_3.length < 17592186044416 then (mosaicref04_Gen_Pick.l1 k3 a1 a2 y554 (wrap64 (x10_3+1)) t547 t548 (x547002_3 ++ [rd y554 x10_3])) else (none))) else (none)) else (none))=some (r1,r2,r3):=by first|(rw [hji27] at H;exact H)|(simp only [hji27] at H ⊢;exact H)
            (try rw [hji27] at A24)
            have hji27w:(IntKind.i64.wrap (x10_3+t549))=ji27:=(i64_w _).trans hji27
            by_cases c28:0≤(ji27)
            ·
             rw [if_pos c28] at H
             have c28b0:decide (0≤(ji27))=true:=decide_eq_true c28
             clear c28
             by_cases c29:(ji27) < (x7_3.length:Int)
             ·
              rw [if_pos c29] at H
              have c29b0:decide ((ji27) < (x7_3.length:Int))=true:=decide_eq_true c29
              clear c29
              obtain ⟨y553,hy553⟩:∃ y_:List Int,y_=(x7_3.set (x10_3:Int).toNat (rd x7_3 (ji27))):=⟨_,rfl⟩
              replace H:((some (y553.set ((ji27):Int).toNat (rd x7_3 x10_3):List Int)).bind fun y554=>(if x547002_3.length < 17592186044416 then (mosaicref04_Gen_Pick.l1 k3 a1 a2 y554 (wrap64 (x10_3+1)) t547 t548 (x547002_3 ++ [rd y554 x10_3])) else (none)))=some (r1,r2,r3):=by first|(rw [hy553];with_reducible exact H)|(have H2_:=(Option.bind_some _ _).symm.trans H;rw [hy553];with_reducible exact H2_)|(have H2_:=(Option.bind_some _ _).symm.trans H;with_reducible exact H2_)|with_reducible exact H|(rw [hy553];exact H)|exact H
              have Ny553:=Aside0.mk hy553
              clear hy553
              obtain ⟨y554,hy554⟩:∃ y_:List Int,y_=(y553.set ((ji27):Int).toNat (rd x7_3 x10_3)):=⟨_,rfl⟩
              replace H:(if x547002_3.length < 17592186044416 then (mosaicref04_Gen_Pick.l1 k3 a1 a2 y554 (wrap64 (x10_3+1)) t547 t548 (x547002_3 ++ [rd y554 x10_3])) else (none))=some (r1,r2,r3):=by first|(rw [hy554];with_reducible exact H)|(have H2_:=(Option.bind_some _ _).symm.trans H;rw [hy554];with_reducible exact H2_)|(have H2_:=(Option.bind_some _ _).symm.trans H;with_reducible exact H2_)|with_reducible exact H|(rw [hy554];exact H)|exact H
              have Ny554:=Aside0.mk hy554
              clear hy554
              by_cases c32:x547002_3.length < 17592186044416
              ·
               rw [if_pos c32] at H
               have LMc32:=Aside0.mk c32
               clear c32
               obtain ⟨y556,hy556⟩:∃ y_:List Int,y_=(x547002_3 ++ [rd y554 x10_3]):=⟨_,rfl⟩
               replace H:(mosaicref04_Gen_Pick.l1 k3 a1 a2 y554 (wrap64 (x10_3+1)) t547 t548 y556)=some (r1,r2,r3):=by first|(rw [hy556];with_reducible exact H)|(have H2_:=(Option.bind_some _ _).symm.trans H;rw [hy556];with_reducible exact H2_)|(have H2_:=(Option.bind_some _ _).symm.trans H;with_reducible exact H2_)|with_reducible exact H|(rw [hy556];exact H)|exact H
               have Ny556:=Aside0.mk hy556
               clear hy556
               have H':=Aside0.mk H
               clear H
               have hnb33:=NB546_541.out
               have hnc33:=NB541_546.out
               have hnb34:=NB546_542.out
               have hnc34:=NB542_546.out
               have hcz35_0:wr.cell? ⟨gb546,0,none⟩=some (.string x547000_3):=(blk_cell BK546.out 0).trans rfl
               have hcz35_1:wr.cell? ⟨gb546,1,none⟩=some (.int .i64 x547001_3):=(blk_cell BK546.out 1).trans rfl
               have hcz35_2:wr.cell? ⟨gb546,2,none⟩=some (u547002):=(blk_cell BK546.out 2).trans rfl
               have hfz35_0:=blk_frozen BK546.out 0
               have hfz35_1:=blk_frozen BK546.out 1
               have hfz35_2:=blk_frozen BK546.out 2
               try go_wp2_with (first|((with_reducible refine gate_callee (f:=69) rfl ?_);refine goesL_ (some 52) rfl rfl Try.func69 (by kernel_rfl) rfl #[.agg #[.string x547000_3,.int .i64 x547001_3],.int .i64 (wrap64 (a1 - x10_3))] rfl (by (try simp only [List.map_toArray,List.map_cons,List.map_nil]);first|done|rfl|(simp only [List.length_drop,List.length_take];rfl)) ?_;(with_reducible refine (mosaicref04_Gen_Below.calls k3 x547000_3 x547001_3 (wrap64 (a1 - x10_3)) t547 t548 t549 _ A24.out).mono ?_);rintro e w36 ⟨rfl,hb⟩;refine ⟨_,rfl,?_⟩;have n0_:=Aside0.mk (Kd.R_below (by (with_reducible repeat (first|apply Kd.R_alloc|apply Kd.R_drewN|apply Kd.R_drew));exact HO_7.out) hb);have n1_:=Aside0.mk (Kd.R_below (by (with_reducible repeat (first|apply Kd.R_alloc|apply Kd.R_drewN|apply Kd.R_drew));exact HO_547002.out) hb);have n2_:=Aside0.mk (blk_below (g:=gb541) (o:=.cells #[.string a0_0,.int .i64 a0_1] 83 (0,0)) (by (with_reducible repeat (first|refine blk_drewN ?_ _|refine blk_drew ?_|refine blk_alloc ?_ _));exact BK541.out) hb);have n3_:=Aside0.mk (blk_below (g:=gb542) (o:=.cells #[.string (⟨#[]⟩:ByteArray),.int .i64 0,.slice none 0 0] 94 (0,0)) (by (with_reducible repeat (first|refine blk_drewN ?_ _|refine blk_drew ?_|refine blk_alloc ?_ _));exact BK542.out) hb);have n4_:=Aside0.mk (blk_below (g:=gb546) (o:=.cells #[.string x547000_3,.int .i64 x547001_3,u547002] 94 (0,0)) (by (with_reducible repeat (first|refine blk_drewN ?_ _|refine blk_drew ?_|refine blk_alloc ?_ _));exact BK546.out) hb);have n5_:=Aside0.mk (below_step (by repeat (first|(with_reducible first|exact HB.out|apply below_alloc|apply pw_below_drewN|apply below_drew1|refine below_set ?_ GE541.out|refine below_set ?_ GE542.out|refine below_set ?_ GE546.out)|exact HB.out)) hb);clear HO_7;clear HO_547002;clear BK541;clear BK542;clear BK546;clear HB;have HO_7:=n0_;have HO_547002:=n1_;have BK541:=n2_;have BK542:=n3_;have BK546:=n4_;have HB:=n5_;clear n0_ n1_ n2_ n3_ n4_ n5_;(try clear hb);(try clear hb2);(try clear hk);(try clear hi))|((with_reducible refine gate_dst (N:=11) rfl ?_);refine box_event ?hg (N:=11) ?hd (cs:=#[.string (⟨#[]⟩:ByteArray),.int .i64 0,.int .i64 0]) (t:=85) ?hr ?_;(case hd=>rfl);(case hg=>rfl);(case hr=>first|(go_simp;done)|(go_simp;rfl));intro gb550 hg w37 hbox hb;have n0_:=Aside0.mk (Kd.R_below (by (with_reducible repeat (first|apply Kd.R_alloc|apply Kd.R_drewN|apply Kd.R_drew));exact HO_7.out) hb);have n1_:=Aside0.mk (Kd.R_below (by (with_reducible repeat (first|apply Kd.R_alloc|apply Kd.R_drewN|apply Kd.R_drew));exact HO_547002.out) hb);have n2_:=Aside0.mk (blk_below (g:=gb541) (o:=.cells #[.string a0_0,.int .i64 a0_1] 83 (0,0)) (by (with_reducible repeat (first|refine blk_drewN ?_ _|refine blk_drew ?_|refine blk_alloc ?_ _));exact BK541.out) hb);have n3_:=Aside0.mk (blk_below (g:=gb542) (o:=.cells #[.string (⟨#[]⟩:ByteArray),.int .i64 0,.slice none 0 0] 94 (0,0)) (by (with_reducible repeat (first|refine blk_drewN ?_ _|refine blk_drew ?_|refine blk_alloc ?_ _));exact BK542.out) hb);have n4_:=Aside0.mk (blk_below (g:=gb546) (o:=.cells #[.string x547000_3,.int .i64 x547001_3,u547002] 94 (0,0)) (by (with_reducible repeat (first|refine blk_drewN ?_ _|refine blk_drew ?_|refine blk_alloc ?_ _));exact BK546.out) hb);have n5_:=Aside0.mk (below_step (by repeat (first|(with_reducible first|exact HB.out|apply below_alloc|apply pw_below_drewN|apply below_drew1|refine below_set ?_ GE541.out|refine below_set ?_ GE542.out|refine below_set ?_ GE546.out)|exact HB.out)) hb);have n6_:=Aside0.mk (hbox);have n7_:=Aside0.mk ((by rw [hg];exact (below_size (by repeat (first|(with_reducible first|exact HB.out|apply below_alloc|apply pw_below_drewN|apply below_drew1|refine below_set ?_ GE541.out|refine below_set ?_ GE542.out|refine below_set ?_ GE546.out)|exact HB.out))):w.heap.size≤gb550));have n8_:=Aside0.mk ((by rw [hg];exact (below_size (by repeat (first|(with_reducible first|exact HB.out|apply below_alloc|apply pw_below_drewN|apply below_drew1|refine below_set ?_ GE541.out|refine below_set ?_ GE542.out|refine below_set ?_ GE546.out)|exact HB.out))):w.heap.size≤gb550));have n9_:=Aside0.mk ((by rw [hg];exact Nat.ne_of_lt (blk_lt (g:=gb541) (o:=.cells #[.string a0_0,.int .i64 a0_1] 83 (0,0)) (by (with_reducible repeat (first|refine blk_drewN ?_ _|refine blk_drew ?_|refine blk_alloc ?_ _));exact BK541.out)):gb541≠gb550));have n10_:=Aside0.mk ((by rw [hg];exact Nat.ne_of_gt (blk_lt (g:=gb541) (o:=.cells #[.string a0_0,.int .i64 a0_1] 83 (0,0)) (by (with_reducible repeat (first|refine blk_drewN ?_ _|refine blk_drew ?_|refine blk_alloc ?_ _));exact BK541.out)):gb550≠gb541));have n11_:=Aside0.mk ((by rw [hg];exact Nat.ne_of_lt (blk_lt (g:=gb542) (o:=.cells #[.string (⟨#[]⟩:ByteArray),.int .i64 0,.slice none 0 0] 94 (0,0)) (by (with_reducible repeat (first|refine blk_drewN ?_ _|refine blk_drew ?_|refine blk_alloc ?_ _));exact BK542.out)):gb542≠gb550));have n12_:=Aside0.mk ((by rw [hg];exact Nat.ne_of_gt (blk_lt (g:=gb542) (o:=.cells #[.string (⟨#[]⟩:ByteArray),.int .i64 0,.slice none 0 0] 94 (0,0)) (by (with_reducible repeat (first|refine blk_drewN ?_ _|refine blk_drew ?_|refine blk_alloc ?_ _));exact BK542.out)):gb550≠gb542));have n13_:=Aside0.mk ((by rw [hg];exact Nat.ne_of_lt (blk_lt (g:=gb546) (o:=.cells #[.string x547000_3,.int .i64 x547001_3,u547002] 94 (0,0)) (by (with_reducible repeat (first|refine blk_drewN ?_ _|refine blk_drew ?_|refine blk_alloc ?_ _));exact BK546.out)):gb546≠gb550));have n14_:=Aside0.mk ((by rw [hg];exact Nat.ne_of_gt (blk_lt (g:=gb546) (o:=.cells #[.string x547000_3,.int .i64 x547001_3,u547002] 94 (0,0)) (by (with_reducible repeat (first|refine blk_drewN ?_ _|refine blk_drew ?_|refine blk_alloc ?_ _));exact BK546.out)):gb550≠gb546));clear HO_7;clear HO_547002;clear BK541;clear BK542;clear BK546;clear HB;have HO_7:=n0_;have HO_547002:=n1_;have BK541:=n2_;have BK542:=n3_;have BK546:=n4_;have HB:=n5_;have BK550:=n6_;have GW550:=n7_;have GE550:=n8_;have NB541_550:=n9_;have NB550_541:=n10_;have NB542_550:=n11_;have NB550_542:=n12_;have NB546_550:=n13_;have NB550_546:=n14_;clear n0_ n1_ n2_ n3_ n4_ n5_ n6_ n7_ n8_ n9_ n10_ n11_ n12_ n13_ n14_;clear hb hbox hg;have hnb38:=NB550_541.out;have hnc38:=NB541_550.out;have hnb39:=NB550_542.out;have hnc39:=NB542_550.out;have hnb40:=NB550_546.out;have hnc40:=NB546_550.out;have hcz41_0:w37.cell? ⟨gb550,0,none⟩=some (.string (⟨#[]⟩:ByteArray)):=(blk_cell BK550.out 0).trans rfl;have hcz41_1:w37.cell? ⟨gb550,1,none⟩=some (.int .i64 0):=(blk_cell BK550.out 1).trans rfl;have hcz41_2:w37.cell? ⟨gb550,2,none⟩=some (.int .i64 0):=(blk_cell BK550.out 2).trans rfl;have hfz41_0:=blk_frozen BK550.out 0;have hfz41_1:=blk_frozen BK550.out 1;have hfz41_2:=blk_frozen BK550.out 2)|((with_reducible refine gate_store (t:=85) (p:=11) rfl ?_);refine store_event (t:=85) (p:=11) (v:=?vo_w42) (w1:=(((w37.setCell ⟨gb550,0,none⟩ (.string t547)).setCell ⟨gb550,1,none⟩ (.int .i64 t548)).setCell ⟨gb550,2,none⟩ (.int .i64 t549))) ?hg ?ho ?hn ?hr ?_;(case ho=>rfl);(case hg=>rfl);(case hn=>rfl);(case hr=>first|(go_simp;done)|(go_simp;rfl));intro w42 hw;have n0_:Aside0 (Kd.R (Kd.int .i64) 3 w42 w.heap.size (fun k_=>some k_≠(u547002:Value).ownBlock) u7 x7_3):=⟨(by rw [hw];exact (by (with_reducible repeat (first|apply Kd.R_alloc|apply Kd.R_drewN|apply Kd.R_drew));exact Kd.R_mono (Kd.R_far (p:=⟨gb550,2,none⟩) (Kd.R_far (p:=⟨gb550,1,none⟩) (Kd.R_far (p:=⟨gb550,0,none⟩) (Kd.R_types HO_7.out BK550.out (by decide)) (fun _ hk=>hk.2) (.string t547)) (fun _ hk=>hk.2) (.int .i64 t548)) (fun _ hk=>hk.2) (.int .i64 t549)) (fun _ hk=>hk.1)))⟩;have n1_:Aside0 (Kd.R (Kd.int .i64) 3 w42 w.heap.size (fun k_=>some k_≠(u7:Value).ownBlock) u547002 x547002_3):=⟨(by rw [hw];exact (by (with_reducible repeat (first|apply Kd.R_alloc|apply Kd.R_drewN|apply Kd.R_drew));exact Kd.R_mono (Kd.R_far (p:=⟨gb550,2,none⟩) (Kd.R_far (p:=⟨gb550,1,none⟩) (Kd.R_far (p:=⟨gb550,0,none⟩) (Kd.R_types HO_547002.out BK550.out (by decide)) (fun _ hk=>hk.2) (.string t547)) (fun _ hk=>hk.2) (.int .i64 t548)) (fun _ hk=>hk.2) (.int .i64 t549)) (fun _ hk=>hk.1)))⟩;have n2_:Aside0 (w42.heap[gb541]?=some (.cells #[.string a0_0,.int .i64 a0_1] 83 (0,0))):=⟨(by rw [hw];exact (by (with_reducible repeat (first|refine blk_drewN ?_ _|refine blk_drew ?_|refine blk_alloc ?_ _));refine blk_far ?_ NB541_550.out _;(with_reducible repeat (first|refine blk_drewN ?_ _|refine blk_drew ?_|refine blk_alloc ?_ _));refine blk_far ?_ NB541_550.out _;(with_reducible repeat (first|refine blk_drewN ?_ _|refine blk_drew ?_|refine blk_alloc ?_ _));refine blk_far ?_ NB541_550.out _;(with_reducible repeat (first|refine blk_drewN ?_ _|refine blk_drew ?_|refine blk_alloc ?_ _));exact BK541.out))⟩;have n3_:Aside0 (w42.heap[gb542]?=some (.cells #[.string (⟨#[]⟩:ByteArray),.int .i64 0,.slice none 0 0] 94 (0,0))):=⟨(by rw [hw];exact (by (with_reducible repeat (first|refine blk_drewN ?_ _|refine blk_drew ?_|refine blk_alloc ?_ _));refine blk_far ?_ NB542_550.out _;(with_reducible repeat (first|refine blk_drewN ?_ _|refine blk_drew ?_|refine blk_alloc ?_ _));refine blk_far ?_ NB542_550.out _;(with_reducible repeat (first|refine blk_drewN ?_ _|refine blk_drew ?_|refine blk_alloc ?_ _));refine blk_far ?_ NB542_550.out _;(with_reducible repeat (first|refine blk_drewN ?_ _|refine blk_drew ?_|refine blk_alloc ?_ _));exact BK542.out))⟩;have n4_:Aside0 (w42.heap[gb546]?=some (.cells #[.string x547000_3,.int .i64 x547001_3,u547002] 94 (0,0))):=⟨(by rw [hw];exact (by (with_reducible repeat (first|refine blk_drewN ?_ _|refine blk_drew ?_|refine blk_alloc ?_ _));refine blk_far ?_ NB546_550.out _;(with_reducible repeat (first|refine blk_drewN ?_ _|refine blk_drew ?_|refine blk_alloc ?_ _));refine blk_far ?_ NB546_550.out _;(with_reducible repeat (first|refine blk_drewN ?_ _|refine blk_drew ?_|refine blk_alloc ?_ _));refine blk_far ?_ NB546_550.out _;(with_reducible repeat (first|refine blk_drewN ?_ _|refine blk_drew ?_|refine blk_alloc ?_ _));exact BK546.out))⟩;have n5_:Aside0 (w42.heap[gb550]?=some (.cells #[.string t547,.int .i64 t548,.int .i64 t549] 85 (0,0))):=⟨(by rw [hw];exact (by (with_reducible repeat (first|refine blk_drewN ?_ _|refine blk_drew ?_|refine blk_alloc ?_ _));refine blk_put (cs:=#[.string t547,.int .i64 t548,.int .i64 0]) ?_ 2 _ rfl;(with_reducible repeat (first|refine blk_drewN ?_ _|refine blk_drew ?_|refine blk_alloc ?_ _));refine blk_put (cs:=#[.string t547,.int .i64 0,.int .i64 0]) ?_ 1 _ rfl;(with_reducible repeat (first|refine blk_drewN ?_ _|refine blk_drew ?_|refine blk_alloc ?_ _));refine blk_put (cs:=#[.string (⟨#[]⟩:ByteArray),.int .i64 0,.int .i64 0]) ?_ 0 _ rfl;(with_reducible repeat (first|refine blk_drewN ?_ _|refine blk_drew ?_|refine blk_alloc ?_ _));exact BK550.out))⟩;have n6_:Aside0 (Below w.heap.size w w42):=⟨(by rw [hw];exact (by repeat (first|(with_reducible first|exact HB.out|apply below_alloc|apply pw_below_drewN|apply below_drew1|refine below_set ?_ GE541.out|refine below_set ?_ GE542.out|refine below_set ?_ GE546.out|refine below_set ?_ GE550.out)|exact HB.out)))⟩;clear hw;clear HO_7;clear HO_547002;clear BK541;clear BK542;clear BK546;clear BK550;clear HB;have HO_7:=n0_;have HO_547002:=n1_;have BK541:=n2_;have BK542:=n3_;have BK546:=n4_;have BK550:=n5_;have HB:=n6_;clear n0_ n1_ n2_ n3_ n4_ n5_ n6_;have hcz43_0:w42.cell? ⟨gb550,0,none⟩=some (.string t547):=(blk_cell BK550.out 0).trans rfl;have hcz43_1:w42.cell? ⟨gb550,1,none⟩=some (.int .i64 t548):=(blk_cell BK550.out 1).trans rfl;have hcz43_2:w42.cell? ⟨gb550,2,none⟩=some (.int .i64 t549):=(blk_cell BK550.out 2).trans rfl;have hfz43_0:=blk_frozen BK550.out 0;have hfz43_1:=blk_frozen BK550.out 1;have hfz43_2:=blk_frozen BK550.out 2;have hcz44_0:w42.cell? ⟨gb546,0,none⟩=some (.string x547000_3):=(blk_cell BK546.out 0).trans rfl;have hcz44_1:w42.cell? ⟨gb546,1,none⟩=some (.int .i64 x547001_3):=(blk_cell BK546.out 1).trans rfl;have hcz44_2:w42.cell? ⟨gb546,2,none⟩=some (u547002):=(blk_cell BK546.out 2).trans rfl;have hfz44_0:=blk_frozen BK546.out 0;have hfz44_1:=blk_frozen BK546.out 1;have hfz44_2:=blk_frozen BK546.out 2)|((with_reducible refine gate_store (t:=83) (p:=55) rfl ?_);refine store_event (t:=83) (p:=55) (v:=?vo_w45) (w1:=((w42.setCell ⟨gb546,0,none⟩ (.string t547)).setCell ⟨gb546,1,none⟩ (.int .i64 t548))) ?hg ?ho ?hn ?hr ?_;(case ho=>rfl);(case hg=>rfl);(case hn=>rfl);(case hr=>first|(go_simp;done)|(go_simp;rfl));intro w45 hw;have n0_:Aside0 (Kd.R (Kd.int .i64) 3 w45 w.heap.size (fun k_=>some k_≠(u547002:Value).ownBlock) u7 x7_3):=⟨(by rw [hw];exact (by (with_reducible repeat (first|apply Kd.R_alloc|apply Kd.R_drewN|apply Kd.R_drew));exact Kd.R_mono (Kd.R_far (p:=⟨gb546,1,none⟩) (Kd.R_far (p:=⟨gb546,0,none⟩) (Kd.R_types HO_7.out BK546.out (by decide)) (fun _ hk=>hk.2) (.string t547)) (fun _ hk=>hk.2) (.int .i64 t548)) (fun _ hk=>hk.1)))⟩;have n1_:Aside0 (Kd.R (Kd.int .i64) 3 w45 w.heap.size (fun k_=>some k_≠(u7:Value).ownBlock) u547002 x547002_3):=⟨(by rw [hw];exact (by (with_reducible repeat (first|apply Kd.R_alloc|apply Kd.R_drewN|apply Kd.R_drew));exact Kd.R_mono (Kd.R_far (p:=⟨gb546,1,none⟩) (Kd.R_far (p:=⟨gb546,0,none⟩) (Kd.R_types HO_547002.out BK546.out (by decide)) (fun _ hk=>hk.2) (.string t547)) (fun _ hk=>hk.2) (.int .i64 t548)) (fun _ hk=>hk.1)))⟩;have n2_:Aside0 (w45.heap[gb541]?=some (.cells #[.string a0_0,.int .i64 a0_1] 83 (0,0))):=⟨(by rw [hw];exact (by (with_reducible repeat (first|refine blk_drewN ?_ _|refine blk_drew ?_|refine blk_alloc ?_ _));refine blk_far ?_ NB541_546.out _;(with_reducible repeat (first|refine blk_drewN ?_ _|refine blk_drew ?_|refine blk_alloc ?_ _));refine blk_far ?_ NB541_546.out _;(with_reducible repeat (first|refine blk_drewN ?_ _|refine blk_drew ?_|refine blk_alloc ?_ _));exact BK541.out))⟩;have n3_:Aside0 (w45.heap[gb542]?=some (.cells #[.string (⟨#[]⟩:ByteArray),.int .i64 0,.slice none 0 0] 94 (0,0))):=⟨(by rw [hw];exact (by (with_reducible repeat (first|refine blk_drewN ?_ _|refine blk_drew ?_|refine blk_alloc ?_ _));refine blk_far ?_ NB542_546.out _;(with_reducible repeat (first|refine blk_drewN ?_ _|refine blk_drew ?_|refine blk_alloc ?_ _));refine blk_far ?_ NB542_546.out _;(with_reducible repeat (first|refine blk_drewN ?_ _|refine blk_drew ?_|refine blk_alloc ?_ _));exact BK542.out))⟩;have n4_:Aside0 (w45.heap[gb546]?=some (.cells #[.string t547,.int .i64 t548,u547002] 94 (0,0))):=⟨(by rw [hw];exact (by (with_reducible repeat (first|refine blk_drewN ?_ _|refine blk_drew ?_|refine blk_alloc ?_ _));refine blk_put (cs:=#[.string t547,.int .i64 x547001_3,u547002]) ?_ 1 _ rfl;(with_reducible repeat (first|refine blk_drewN ?_ _|refine blk_drew ?_|refine blk_alloc ?_ _));refine blk_put (cs:=#[.string x547000_3,.int .i64 x547001_3,u547002]) ?_ 0 _ rfl;(with_reducible repeat (first|refine blk_drewN ?_ _|refine blk_drew ?_|refine blk_alloc ?_ _));exact BK546.out))⟩;have n5_:Aside0 (w45.heap[gb550]?=some (.cells #[.string t547,.int .i64 t548,.int .i64 t549] 85 (0,0))):=⟨(by rw [hw];exact (by (with_reducible repeat (first|refine blk_drewN ?_ _|refine blk_drew ?_|refine blk_alloc ?_ _));refine blk_far ?_ NB550_546.out _;(with_reducible repeat (first|refine blk_drewN ?_ _|refine blk_drew ?_|refine blk_alloc ?_ _));refine blk_far ?_ NB550_546.out _;(with_reducible repeat (first|refine blk_drewN ?_ _|refine blk_drew ?_|refine blk_alloc ?_ _));exact BK550.out))⟩;have n6_:Aside0 (Below w.heap.size w w45):=⟨(by rw [hw];exact (by repeat (first|(with_reducible first|exact HB.out|apply below_alloc|apply pw_below_drewN|apply below_drew1|refine below_set ?_ GE541.out|refine below_set ?_ GE542.out|refine below_set ?_ GE546.out|refine below_set ?_ GE550.out)|exact HB.out)))⟩;clear hw;clear HO_7;clear HO_547002;clear BK541;clear BK542;clear BK546;clear BK550;clear HB;have HO_7:=n0_;have HO_547002:=n1_;have BK541:=n2_;have BK542:=n3_;have BK546:=n4_;have BK550:=n5_;have HB:=n6_;clear n0_ n1_ n2_ n3_ n4_ n5_ n6_;have hcz46_0:w45.cell? ⟨gb550,0,none⟩=some (.string t547):=(blk_cell BK550.out 0).trans rfl;have hcz46_1:w45.cell? ⟨gb550,1,none⟩=some (.int .i64 t548):=(blk_cell BK550.out 1).trans rfl;have hcz46_2:w45.cell? ⟨gb550,2,none⟩=some (.int .i64 t549):=(blk_cell BK550.out 2).trans rfl;have hfz46_0:=blk_frozen BK550.out 0;have hfz46_1:=blk_frozen BK550.out 1;have hfz46_2:=blk_frozen BK550.out 2;obtain ⟨Ao47,co47,eo47⟩:=Kd.R_slice HO_7.out;subst eo47;have p551:0≤(x10_3:Int):=of_decide_eq_true (by first|(with_reducible assumption)|assumption);have q551:x10_3 < (x7_3.length:Int):=of_decide_eq_true (by first|(with_reducible assumption)|assumption);obtain ⟨ad551,e551,hx551_0⟩:=Kd.at_int (Kd.R_reads' HO_7.out).2.2 x10_3 p551 q551;cases e551;replace p551:=eq_true p551;replace q551:=eq_true q551;have p552:0≤((ji27):Int):=of_decide_eq_true (by first|(with_reducible assumption)|assumption);have q552:(ji27) < (x7_3.length:Int):=of_decide_eq_true (by first|(with_reducible assumption)|assumption);obtain ⟨ad552,e552,hx552_0⟩:=Kd.at_int (Kd.R_reads' HO_7.out).2.2 (ji27) p552 q552;obtain rfl:ad551=ad552:=(by injection e552);replace p552:=eq_true p552;replace q552:=eq_true q552;have p30:0≤(x10_3:Int):=of_decide_eq_true (by first|(with_reducible assumption)|assumption);have q30:(x10_3:Int) < ((x7_3.length:Int):Int):=of_decide_eq_true (by first|(with_reducible assumption)|assumption);obtain ⟨go30,co30,eo30,gb30,gl30,cl30,HG30⟩:=Kd.R_form HO_7.out (by omega);(first|cases eo30|(injection eo30 with ea_ en_ ec_;(first|subst ea_|(injection ea_ with ea_;subst ea_));subst ec_;clear en_));have GB30:=Aside0.mk gb30;have GG30:=Aside0.mk HG30;clear gb30 gl30 HG30;(first|simp only [add_plain] at hx551_0|skip);(first|simp only [add_plain] at hx552_0|skip);obtain ⟨hx30_0,hf30_0⟩:=Kd.R_celln 0 HO_7.out (x10_3:Int) p30 q30;replace p30:=eq_true p30;replace q30:=eq_true q30;obtain ⟨hy48_,hz48_⟩:=Kd.R_celln 0 HO_7.out (x10_3:Int) (of_decide_eq_true (by first|(with_reducible assumption)|assumption)) (of_decide_eq_true (by first|(with_reducible assumption)|assumption));have HP48:=Kd.R_putg HO_7.out (x10_3:Int) (rd x7_3 (ji27)))|((with_reducible refine gate_store (t:=3) (p:=70) rfl ?_);refine store_event (t:=3) (p:=70) (v:=?vo_w49) (w1:=(w45.setCell ⟨go30,(x10_3:Int).toNat,none⟩ (.int .i64 (rd x7_3 (ji27))))) ?hg ?ho ?hn ?hr ?_;(case ho=>rfl);(case hg=>rfl);(case hn=>rfl);(case hr=>first|(go_simp;done)|(go_simp;rfl));intro w49 hw;have hg:w45.grownBy w49 (some go30):=(by rw [hw];exact HP48.2);have hp_:Kd.R (Kd.int .i64) 3 w49 w.heap.size (fun k_=>some k_≠(u547002:Value).ownBlock) (.slice (some ⟨go30,0,none⟩) x7_3.length co47) y553:=(by rw [hw,Ny553.out];exact HP48.1);clear HP48;have n0_:=Aside0.mk (hp_);have n1_:=Aside0.mk (Kd.R_after (v:=(.slice (some ⟨go30,0,none⟩) x7_3.length co47)) (v1:=(.slice (some ⟨go30,0,none⟩) x7_3.length co47)) (ok:=(fun _=>True)) (by (with_reducible repeat (first|apply Kd.R_alloc|apply Kd.R_drewN|apply Kd.R_drew));exact Kd.R_mono HO_547002.out (fun _ hk=>⟨trivial,hk⟩)) hg (.inl rfl));have n2_:=Aside0.mk (blk_grown (g:=gb541) (o:=.cells #[.string a0_0,.int .i64 a0_1] 83 (0,0)) (by (with_reducible repeat (first|refine blk_drewN ?_ _|refine blk_drew ?_|refine blk_alloc ?_ _));exact BK541.out) hg (Kd.R_ne HO_7.out BK541.out (by decide)));have n3_:=Aside0.mk (blk_grown (g:=gb542) (o:=.cells #[.string (⟨#[]⟩:ByteArray),.int .i64 0,.slice none 0 0] 94 (0,0)) (by (with_reducible repeat (first|refine blk_drewN ?_ _|refine blk_drew ?_|refine blk_alloc ?_ _));exact BK542.out) hg (Kd.R_ne HO_7.out BK542.out (by decide)));have n4_:=Aside0.mk (blk_grown (g:=gb546) (o:=.cells #[.string t547,.int .i64 t548,u547002] 94 (0,0)) (by (with_reducible repeat (first|refine blk_drewN ?_ _|refine blk_drew ?_|refine blk_alloc ?_ _));exact BK546.out) hg (Kd.R_ne HO_7.out BK546.out (by decide)));have n5_:=Aside0.mk (blk_grown (g:=gb550) (o:=.cells #[.string t547,.int .i64 t548,.int .i64 t549] 85 (0,0)) (by (with_reducible repeat (first|refine blk_drewN ?_ _|refine blk_drew ?_|refine blk_alloc ?_ _));exact BK550.out) hg (Kd.R_ne HO_7.out BK550.out (by decide)));have n6_:=Aside0.mk ((by rw [hw];exact below_set (HB.out) GB30.out:Below w.heap.size w w49));clear HO_7;clear HO_547002;clear BK541;clear BK542;clear BK546;clear BK550;clear HB;have HO_7:=n0_;have HO_547002:=n1_;have BK541:=n2_;have BK542:=n3_;have BK546:=n4_;have BK550:=n5_;have HB:=n6_;clear n0_ n1_ n2_ n3_ n4_ n5_ n6_;clear hg hw hp_;have p31:0≤((ji27):Int):=of_decide_eq_true (by first|(with_reducible assumption)|assumption);have q31:((ji27):Int) < ((x7_3.length:Int):Int):=of_decide_eq_true (by first|(with_reducible assumption)|assumption);obtain ⟨hx31_0,hf31_0⟩:=Kd.R_celln 0 HO_7.out ((ji27):Int) p31 q31;replace p31:=eq_true p31;replace q31:=eq_true q31;obtain ⟨hy50_,hz50_⟩:=Kd.R_celln 0 HO_7.out ((ji27):Int) (of_decide_eq_true (by first|(with_reducible assumption)|assumption)) (of_decide_eq_true (by first|(with_reducible assumption)|assumption));have HP50:=Kd.R_putg HO_7.out ((ji27):Int) (rd x7_3 x10_3))|((with_reducible refine gate_store (t:=3) (p:=74) rfl ?_);refine store_event (t:=3) (p:=74) (v:=?vo_w51) (w1:=(w49.setCell ⟨go30,((ji27):Int).toNat,none⟩ (.int .i64 (rd x7_3 x10_3)))) ?hg ?ho ?hn ?hr ?_;(case ho=>rfl);(case hg=>rfl);(case hn=>rfl);(case hr=>first|(go_simp;done)|(go_simp;rfl));intro w51 hw;have hg:w49.grownBy w51 (some go30):=(by rw [hw];exact HP50.2);have hp_:Kd.R (Kd.int .i64) 3 w51 w.heap.size (fun k_=>some k_≠(u547002:Value).ownBlock) (.slice (some ⟨go30,0,none⟩) x7_3.length co47) y554:=(by rw [hw,Ny554.out];exact HP50.1);clear HP50;have n0_:=Aside0.mk (hp_);have n1_:=Aside0.mk (Kd.R_after (v:=(.slice (some ⟨go30,0,none⟩) x7_3.length co47)) (v1:=(.slice (some ⟨go30,0,none⟩) x7_3.length co47)) (ok:=(fun _=>True)) (by (with_reducible repeat (first|apply Kd.R_alloc|apply Kd.R_drewN|apply Kd.R_drew));exact HO_547002.out) hg (.inl rfl));have n2_:=Aside0.mk (blk_grown (g:=gb541) (o:=.cells #[.string a0_0,.int .i64 a0_1] 83 (0,0)) (by (with_reducible repeat (first|refine blk_drewN ?_ _|refine blk_drew ?_|refine blk_alloc ?_ _));exact BK541.out) hg (Kd.R_ne HO_7.out BK541.out (by decide)));have n3_:=Aside0.mk (blk_grown (g:=gb542) (o:=.cells #[.string (⟨#[]⟩:ByteArray),.int .i64 0,.slice none 0 0] 94 (0,0)) (by (with_reducible repeat (first|refine blk_drewN ?_ _|refine blk_drew ?_|refine blk_alloc ?_ _));exact BK542.out) hg (Kd.R_ne HO_7.out BK542.out (by decide)));have n4_:=Aside0.mk (blk_grown (g:=gb546) (o:=.cells #[.string t547,.int .i64 t548,u547002] 94 (0,0)) (by (with_reducible repeat (first|refine blk_drewN ?_ _|refine blk_drew ?_|refine blk_alloc ?_ _));exact BK546.out) hg (Kd.R_ne HO_7.out BK546.out (by decide)));have n5_:=Aside0.mk (blk_grown (g:=gb550) (o:=.cells #[.string t547,.int .i64 t548,.int .i64 t549] 85 (0,0)) (by (with_reducible repeat (first|refine blk_drewN ?_ _|refine blk_drew ?_|refine blk_alloc ?_ _));exact BK550.out) hg (Kd.R_ne HO_7.out BK550.out (by decide)));have n6_:=Aside0.mk ((by rw [hw];exact below_set (HB.out) GB30.out:Below w.heap.size w w51));clear HO_7;clear HO_547002;clear BK541;clear BK542;clear BK546;clear BK550;clear HB;have HO_7:=n0_;have HO_547002:=n1_;have BK541:=n2_;have BK542:=n3_;have BK546:=n4_;have BK550:=n5_;have HB:=n6_;clear n0_ n1_ n2_ n3_ n4_ n5_ n6_;clear hg hw hp_))
               have n0_:=Aside0.mk (Kd.R_drew HO_7.out)
               have n1_:=Aside0.mk (Kd.R_drew HO_547002.out)
               have n2_:=Aside0.mk (blk_drew BK541.out)
               have n3_:=Aside0.mk (blk_drew BK542.out)
               have n4_:=Aside0.mk (blk_drew BK546.out)
               have n5_:=Aside0.mk (blk_drew BK550.out)
               have n6_:=Aside0.mk (below_drew1 HB.out)
               clear HO_7
               clear HO_547002
               clear BK541
               clear BK542
               clear BK546
               clear BK550
               clear HB
               have HO_7:=n0_
               have HO_547002:=n1_
               have BK541:=n2_
               have BK542:=n3_
               have BK546:=n4_
               have BK550:=n5_
               have HB:=n6_
               clear n0_ n1_ n2_ n3_ n4_ n5_ n6_
               have p555:0≤(x10_3:Int):=of_decide_eq_true (by first|(with_reducible assumption)|assumption)
               have q555:x10_3 < (y554.length:Int):=(by have h_:(x10_3:Int) < ((x7_3.length:Int):Int):=of_decide_eq_true (by first|(with_reducible assumption)|assumption);first|(have e_:=(Kd.R_reads' HO_7.out).1;omega)|simpa only [Ny553.out,Ny554.out,List.length_set] using h_)
               have ql555:((x10_3:Int) < ((x7_3.length:Int):Int))=True:=eq_true (of_decide_eq_true (by first|(with_reducible assumption)|assumption))
               obtain ⟨ad555,e555,hx555_0⟩:=Kd.at_int (Kd.R_reads' HO_7.out).2.2 x10_3 p555 q555
               obtain rfl:(⟨go30,0,none⟩:Addr)=ad555:=(by injection e555)
               (first|simp only [add_plain] at hx555_0|simp only [add_at] at hx555_0|simp only [Addr.add,Nat.zero_add] at hx555_0|skip)
               replace p555:=eq_true p555
               replace q555:=eq_true q555
               refine start_ (n:=10) (S:=fun w'=>w'.cell? ⟨gb546,0,none⟩=some (.string t547)∧w'.cell? ⟨gb546,1,none⟩=some (.int .i64 t548)∧w'.cell? ⟨gb546,2,none⟩=some (u547002)∧w'.cell? ⟨go30,(x10_3).toNat,none⟩=some (.int .i64 (rd y554 x10_3))) (ds:=[7,9]) #[false,false,false,false,false,false,false,false,false,false] (by kernel_rfl) rfl rfl ⟨(blk_cell BK546.out 0).trans rfl,(blk_cell BK546.out 1).trans rfl,(blk_cell BK546.out 2).trans rfl,hx555_0⟩ (fun hHeld=>?_);refine with_tabW mosaicref04_Gen_Pick.tab18 mosaicref04_Gen_Pick.bits18 (fun HT_ HW_=>?_)
               generalize w51.drew=w52 at HO_7 HO_547002 BK541 BK542 BK546 BK550 HB hx555_0 hHeld ⊢
               refine pure_ (i:=0) (N:=some 75) (v:=?_) (a':=?_) #[true,false,false,false,false,false,false,false,false,false] rfl rfl (any_of HT_.out (by kernel_rfl)) (fun _ _ _ h=>h) (Or.inl ⟨by rfl,?_⟩) ?_ ?_
               rotate_left
               ·
                intro w'
                go_simp
                with_reducible rfl
               rotate_left
               ·
                simp only [Act.put,List.setIfInBounds_toArray,List.set_cons_zero,List.set_cons_succ,i64_w,i32_w]
                rfl
               refine pure_ (i:=2) (N:=some 77) (v:=?_) (a':=?_) #[true,false,true,false,false,false,false,false,false,false] rfl rfl (any_of HT_.out (by kernel_rfl)) (fun _ _ _ h=>h) (Or.inl ⟨by rfl,?_⟩) ?_ ?_
               rotate_left
               ·
                intro w'
                go_simp
                with_reducible rfl
               rotate_left
               ·
                simp only [Act.put,List.setIfInBounds_toArray,List.set_cons_zero,List.set_cons_succ,i64_w,i32_w]
                rfl
               refine pure_ (i:=3) (N:=some 78) (v:=?_) (a':=?_) #[true,false,true,true,false,false,false,false,false,false] rfl rfl (any_of HT_.out (by kernel_rfl)) (fun _ _ _ h=>h) (Or.inl ⟨by rfl,?_⟩) ?_ ?_
               rotate_left
               ·
                intro w'
                go_simp
                with_reducible rfl
               rotate_left
               ·
                simp only [Act.put,List.setIfInBounds_toArray,List.set_cons_zero,List.set_cons_succ,i64_w,i32_w]
                rfl
               refine pure_ (i:=4) (N:=some 79) (v:=?_) (a':=?_) #[true,false,true,true,true,false,false,false,false,false] rfl rfl (any_of HT_.out (by kernel_rfl)) (fun _ _ _ h=>h) (Or.inl ⟨by rfl,?_⟩) ?_ ?_
               rotate_left
               ·
                intro w'
                go_simp
                with_reducible rfl
               rotate_left
               ·
                simp only [Act.put,List.setIfInBounds_toArray,List.set_cons_zero,List.set_cons_succ,i64_w,i32_w]
                rfl
               refine take_ (i:=1) (N:=some 76) (v:=?_) (a':=?_) #[true,true,true,true,true,false,false,false,false,false] rfl rfl (take_ofW HT_.out HW_.out (by kernel_rfl)) (fun _ _ _ h=>h) (Or.inl ⟨by rfl,?_⟩) hHeld ?_ ?_
               rotate_left
               ·
                rintro w' ⟨s0,s1,s2,s3⟩
                go_simp
                with_reducible rfl
               rotate_left
               ·
                simp only [Act.put,List.setIfInBounds_toArray,List.set_cons_zero,List.set_cons_succ,i64_w,i32_w]
                rfl
               refine take_ (i:=5) (N:=some 80) (v:=?_) (a':=?_) #[true,true,true,true,true,true,false,false,false,false] rfl rfl (take_ofW HT_.out HW_.out (by kernel_rfl)) (fun _ _ _ h=>h) (Or.inl ⟨by rfl,?_⟩) hHeld ?_ ?_
               rotate_left
               ·
                rintro w' ⟨s0,s1,s2,s3⟩
                go_simp
                with_reducible rfl
               rotate_left
               ·
                simp only [Act.put,List.setIfInBounds_toArray,List.set_cons_zero,List.set_cons_succ,i64_w,i32_w]
                rfl
               refine one_ (i:=6) (N:=some 81) #[true,true,true,true,true,true,true,false,false,false] rfl rfl (one_of HT_.out (by kernel_rfl)) (by decide) (fun K hK=>?_)
               refine value_ (w1:=?_) (v:=?_) (by rfl) rfl ?_ ?_
               rotate_left 2
               ·
                go_simp
                constructor
                ·
                 rfl
                ·
                 rfl
               refine hK.out _ _ ⟨(blk_cell (blk_alloc BK546.out _) 0).trans rfl,(blk_cell (blk_alloc BK546.out _) 1).trans rfl,(blk_cell (blk_alloc BK546.out _) 2).trans rfl,(World.cell?_alloc_lt _ _ _ (World.block_lt_of_cell? _ _ (hHeld.2.2.2))).trans (hHeld.2.2.2)⟩ (fun hHeld=>?_)
               clear hK K
               refine norm_ (a':=?_) ?_ ?_
               rotate_left
               ·
                show Act.put _ (some 81) _=_
                simp only [Act.put,List.setIfInBounds_toArray,List.set_cons_zero,List.set_cons_succ,i64_w,i32_w]
                rfl
               refine last_ (i:=7) (N:=some 82) #[true,true,true,true,true,true,true,true,false,false] rfl rfl (one_of HT_.out (by kernel_rfl)) (by decide) (fun K hK=>?_)
               refine Kd.R_append_step (Kd.int .i64) (w0:=w) w.heap.size (by rfl) (.tmp 76) (.tmp 81) 77 3 (.int .i64 0) 8 rfl Try.underlying77 info3 rfl (by decide) (by omega) u547002 x547002_3 (rd y554 x10_3) [.int .i64 (rd y554 x10_3)] (fun k_=>some k_≠(.slice (some ⟨go30,0,none⟩) x7_3.length co47:Value).ownBlock) (fun _=>False) rfl rfl ?aP (fun _ hk=>hk.elim) ?aF ?aO ?aB ?aS ?aL ?_
               (case aP=>exact rfl)
               (case aB=>exact (by repeat (first|(with_reducible first|exact HB.out|apply below_alloc|apply pw_below_drewN|apply below_drew1|refine below_set ?_ GE541.out|refine below_set ?_ GE542.out|refine below_set ?_ GE546.out|refine below_set ?_ GE550.out)|exact HB.out)))
               (case aF=>exact (fun k_ hk=>Kd.fresh' (Kd.R_lt (by (with_reducible repeat (first|apply Kd.R_alloc|apply Kd.R_drewN|apply Kd.R_drew));exact HO_7.out)) k_ hk))
               (case aO=>exact (by (with_reducible repeat (first|apply Kd.R_alloc|apply Kd.R_drewN|apply Kd.R_drew));exact Kd.R_mono HO_547002.out (fun _ hk=>hk.2)))
               (case aS=>exact (below_size (by repeat (first|(with_reducible first|exact HB.out|apply below_alloc|apply pw_below_drewN|apply below_drew1|refine below_set ?_ GE541.out|refine below_set ?_ GE542.out|refine below_set ?_ GE546.out|refine below_set ?_ GE550.out)|exact HB.out))))
               (case aL=>have:=LMc32.out;omega)
               intro v557 w53 ho hb hg hat
               rw [← Ny556.out] at ho
               have n0_:=Aside0.mk (Kd.R_after (ok:=(fun _=>True)) (by (with_reducible repeat (first|apply Kd.R_alloc|apply Kd.R_drewN|apply Kd.R_drew));exact Kd.R_mono HO_7.out (fun _ hk=>⟨trivial,hk⟩)) hg hat)
               have n1_:=Aside0.mk (blk_grown (g:=gb541) (o:=.cells #[.string a0_0,.int .i64 a0_1] 83 (0,0)) (by (with_reducible repeat (first|refine blk_drewN ?_ _|refine blk_drew ?_|refine blk_alloc ?_ _));exact BK541.out) hg (Kd.R_ne HO_547002.out BK541.out (by decide)))
               have n2_:=Aside0.mk (blk_grown (g:=gb542) (o:=.cells #[.string (⟨#[]⟩:ByteArray),.int .i64 0,.slice none 0 0] 94 (0,0)) (by (with_reducible repeat (first|refine blk_drewN ?_ _|refine blk_drew ?_|refine blk_alloc ?_ _));exact BK542.out) hg (Kd.R_ne HO_547002.out BK542.out (by decide)))
               have n3_:=Aside0.mk (blk_grown (g:=gb546) (o:=.cells #[.string t547,.int .i64 t548,u547002] 94 (0,0)) (by (with_reducible repeat (first|refine blk_drewN ?_ _|refine blk_drew ?_|refine blk_alloc ?_ _));exact BK546.out) hg (Kd.R_ne HO_547002.out BK546.out (by decide)))
               have n4_:=Aside0.mk (blk_grown (g:=gb550) (o:=.cells #[.string t547,.int .i64 t548,.int .i64 t549] 85 (0,0)) (by (with_reducible repeat (first|refine blk_drewN ?_ _|refine blk_drew ?_|refine blk_alloc ?_ _));exact BK550.out) hg (Kd.R_ne HO_547002.out BK550.out (by decide)))
               have n5_:=Aside0.mk (hb)
               have n6_:=Aside0.mk (ho)
               clear HO_7
               clear BK541
               clear BK542
               clear BK546
               clear BK550
               clear HB
               clear HO_547002
               have HO_7:=n0_
               have BK541:=n1_
               have BK542:=n2_
               have BK546:=n3_
               have BK550:=n4_
               have HB:=n5_
               have HO558:=n6_
               clear n0_ n1_ n2_ n3_ n4_ n5_ n6_
               clear ho hb hg hat
               obtain ⟨Ao54,co54,eo54⟩:=Kd.R_slice HO558.out
               (first|subst eo54|(injection eo54 with f1_ f2_ f3_;have f4_:=f1_.symm;have f5_:=f3_.symm;clear f1_ f2_ f3_;subst f4_;subst f5_))
               refine hK.out _ _ ?_
               clear hK K
               refine norm_ (a':=?_) ?_ ?_
               rotate_left
               ·
                show Act.put _ (some 82) _=_
                simp only [Act.put,List.setIfInBounds_toArray,List.set_cons_zero,List.set_cons_succ,i64_w,i32_w]
                rfl
               refine pure_ (i:=8) (N:=some 83) (v:=?_) (a':=?_) #[true,true,true,true,true,true,true,true,true,false] rfl rfl (any_of HT_.out (by kernel_rfl)) (fun _ _ _ h=>h) (Or.inl ⟨by rfl,?_⟩) ?_ ?_
               rotate_left
               ·
                intro w'
                go_simp
                with_reducible rfl
               rotate_left
               ·
                simp only [Act.put,List.setIfInBounds_toArray,List.set_cons_zero,List.set_cons_succ,i64_w,i32_w]
                rfl
               refine last_ (i:=9) (N:=none) #[true,true,true,true,true,true,true,true,true,true] rfl rfl (one_of HT_.out (by kernel_rfl)) (by decide) (fun K hK=>?_)
               have hs55:w53.cell? ⟨gb546,2,none⟩=some (u547002):=(blk_cell BK546.out 2).trans rfl
               have hfs55:=blk_frozen BK546.out 2
               have hns55_0:=NB541_546.out
               have hns55_1:=NB542_546.out
               have hns55_3:=NB550_546.out
               have hms55_0:=NB546_541.out
               have hms55_1:=NB546_542.out
               have hms55_3:=NB546_550.out
               refine skip_ (w1:=?_) (by rfl) rfl ?_ ?_
               rotate_left
               ·
                go_simp
                rfl
               refine hK.out _ _ ?_
               clear hK K
               refine done_ (done_of HT_.out (by kernel_rfl)) ?_
               try go_wp2
               go_roundg k3
               case measure=>have:=HJ3.out;have:=HK2.out;have:=HK3.out;omega
               case rel=>exact ⟨(y554),(wrap64 (x10_3+1)),(t547),(t548),(y556),(.slice Ao54 y556.length co54),(by first|rfl|(simp;done)|(simp [*];done)),H',⟨by have:=HJ3.out;have:=HK2.out;have:=HK3.out;omega⟩,⟨by (with_reducible repeat (first|apply Kd.R_alloc|apply Kd.R_drewN|apply Kd.R_drew));exact Kd.R_mono (Kd.R_far (p:=⟨gb546,2,none⟩) (Kd.R_types HO_7.out BK546.out (by decide)) (fun _ hk=>hk.2) (.slice Ao54 y556.length co54)) (fun _ hk=>hk.1.2)⟩,⟨by (with_reducible repeat (first|apply Kd.R_alloc|apply Kd.R_drewN|apply Kd.R_drew));exact Kd.R_mono (Kd.R_far (p:=⟨gb546,2,none⟩) (Kd.R_types HO558.out BK546.out (by decide)) (fun _ hk=>hk.2) (.slice Ao54 y556.length co54)) (fun _ hk=>hk.1)⟩,⟨by (with_reducible repeat (first|refine blk_drewN ?_ _|refine blk_drew ?_|refine blk_alloc ?_ _));refine blk_far ?_ NB541_546.out _;(with_reducible repeat (first|refine blk_drewN ?_ _|refine blk_drew ?_|refine blk_alloc ?_ _));exact BK541.out⟩,⟨by (with_reducible repeat (first|refine blk_drewN ?_ _|refine blk_drew ?_|refine blk_alloc ?_ _));refine blk_far ?_ NB542_546.out _;(with_reducible repeat (first|refine blk_drewN ?_ _|refine blk_drew ?_|refine blk_alloc ?_ _));exact BK542.out⟩,⟨by (with_reducible repeat (first|refine blk_drewN ?_ _|refine blk_drew ?_|refine blk_alloc ?_ _));refine blk_put (cs:=#[.string t547,.int .i64 t548,u547002]) ?_ 2 _ rfl;(with_reducible repeat (first|refine blk_drewN ?_ _|refine blk_drew ?_|refine blk_alloc ?_ _));exact BK546.out⟩,⟨by repeat (first|(with_reducible first|exact HB.out|apply below_alloc|apply pw_below_drewN|apply below_drew1|refine below_set ?_ GE541.out|refine below_set ?_ GE542.out|refine below_set ?_ GE546.out|refine below_set ?_ GE550.out)|exact HB.out)⟩⟩
              ·
               rw [if_neg c32] at H
               exact absurd H (by simp)
             ·
              rw [if_neg c29] at H
              exact absurd H (by simp)
            ·
             rw [if_neg c28] at H
             exact absurd H (by simp)
           ·
            rw [if_neg c26] at H
            exact absurd H (by simp)
          ·
           rw [if_neg c25] at H
           exact absurd H (by simp)
         ·
          rw [if_neg c23] at H
          have c23b0:decide (x10_3 < a2)=false:=decide_eq_false c23
          clear c23
          simp only [Option.some.injEq,Prod.mk.injEq] at H
          obtain ⟨rfl,rfl,rfl⟩:=H
          have hnb56:=NB546_541.out
          have hnc56:=NB541_546.out
          have hnb57:=NB546_542.out
          have hnc57:=NB542_546.out
          have hcz58_0:wr.cell? ⟨gb546,0,none⟩=some (.string x547000_3):=(blk_cell BK546.out 0).trans rfl
          have hcz58_1:wr.cell? ⟨gb546,1,none⟩=some (.int .i64 x547001_3):=(blk_cell BK546.out 1).trans rfl
          have hcz58_2:wr.cell? ⟨gb546,2,none⟩=some (u547002):=(blk_cell BK546.out 2).trans rfl
          have hfz58_0:=blk_frozen BK546.out 0
          have hfz58_1:=blk_frozen BK546.out 1
          have hfz58_2:=blk_frozen BK546.out 2
          have hnb59:=NB542_541.out
          have hnc59:=NB541_542.out
          have hcz60_0:wr.cell? ⟨gb542,0,none⟩=some (.string (⟨#[]⟩:ByteArray)):=(blk_cell BK542.out 0).trans rfl
          have hcz60_1:wr.cell? ⟨gb542,1,none⟩=some (.int .i64 0):=(blk_cell BK542.out 1).trans rfl
          have hcz60_2:wr.cell? ⟨gb542,2,none⟩=some (.slice none 0 0):=(blk_cell BK542.out 2).trans rfl
          have hfz60_0:=blk_frozen BK542.out 0
          have hfz60_1:=blk_frozen BK542.out 1
          have hfz60_2:=blk_frozen BK542.out 2
          obtain ⟨Ao61,co61,eo61⟩:=Kd.R_slice HO_547002.out
          subst eo61
          go_wp2
          refine bodyPost_ret (results_cell_row rfl _ _ gb542 94 #[.string x547000_3,.int .i64 x547001_3,.slice Ao61 x547002_3.length co61] (0,0) _ rfl (by (with_reducible repeat (first|refine blk_drewN ?_ _|refine blk_drew ?_|refine blk_alloc ?_ _));refine blk_put (cs:=#[.string x547000_3,.int .i64 x547001_3,.slice none 0 0]) ?_ 2 _ rfl;(with_reducible repeat (first|refine blk_drewN ?_ _|refine blk_drew ?_|refine blk_alloc ?_ _));refine blk_put (cs:=#[.string x547000_3,.int .i64 0,.slice none 0 0]) ?_ 1 _ rfl;(with_reducible repeat (first|refine blk_drewN ?_ _|refine blk_drew ?_|refine blk_alloc ?_ _));refine blk_put (cs:=#[.string (⟨#[]⟩:ByteArray),.int .i64 0,.slice none 0 0]) ?_ 0 _ rfl;(with_reducible repeat (first|refine blk_drewN ?_ _|refine blk_drew ?_|refine blk_alloc ?_ _));exact BK542.out) Try.underlying94 rfl (by kernel_rfl)) rfl ?_
          exact ⟨_,by first|rfl|(simp [errW_none,errW_some] <;> rfl)|(simp [*,errW_none,errW_some] <;> rfl),by (with_reducible repeat (first|apply Kd.R_alloc|apply Kd.R_drewN|apply Kd.R_drew));exact Kd.R_mono (Kd.R_far (p:=⟨gb542,2,none⟩) (Kd.R_far (p:=⟨gb542,1,none⟩) (Kd.R_far (p:=⟨gb542,0,none⟩) (Kd.R_types HO_547002.out BK542.out (by decide)) (fun _ hk=>hk.2) (.string x547000_3)) (fun _ hk=>hk.2) (.int .i64 x547001_3)) (fun _ hk=>hk.2) (.slice Ao61 x547002_3.length co61)) (fun _ hk=>trivial),by repeat (first|(with_reducible first|exact HB.out|apply below_alloc|apply pw_below_drewN|apply below_drew1|refine below_set ?_ GE541.out|refine below_set ?_ GE542.out|refine below_set ?_ GE546.out)|exact HB.out)⟩
end Go.Proofs.Ytelcaepenfjloaa.Print
/-! #### Pr72 -/
namespace Go.Proofs.Ytelcaepenfjloaa.Print
open Go.RowKit Go.Proofs.YtelcaepenfjloaaW.PrintWords Go.Proofs.YtelcaepenfjloaaW.PrintLast Go.Proofs.YtelcaepenfjloaaW.PrintMore
attribute [local go_sem] max2_int min2_int max_two min_two max_three min_three max_four min_four
set_option linter.unusedVariables false
set_option linter.unusedSimpArgs false
/-! ### mosaicref04_Same: function 72 -/
def mosaicref04_Same.l0:Nat→List Int→List Int→Int→Option (Bool)
 | 0,_,_,_=>none
 | k+1,x0,x1,x5=>if x5 < (x0.length:Int) then (if 0≤x5 then (if x5 < (x1.length:Int) then (if (rd x0 x5)=(rd x1 x5) then (mosaicref04_Same.l0 k x0 x1 (wrap64 (x5+1))) else (some false)) else (none)) else (none)) else (some true)
def mosaicref04_Same.f (k:Nat) (l0:List Int) (l1:List Int):Option (Bool):=if (l0.length:Int)=(l1.length:Int) then (mosaicref04_Same.l0 k l0 l1 0) else (some false)
theorem mosaicref04_Same.mono_l:∀ k,(∀ y0 y1 y2,LeO (mosaicref04_Same.l0 k y0 y1 y2) (mosaicref04_Same.l0 (k+1) y0 y1 y2))
 | 0=>fun _ _ _ r h=>by simp [mosaicref04_Same.l0] at h
 | k+1=>by
  have ih0:=mosaicref04_Same.mono_l k
  ·
   intro y0 y1 y2
   unfold mosaicref04_Same.l0
   repeat' first
   | (with_reducible exact ih0 _ _ _)
   | (with_reducible exact LeO.refl _)
   | (with_reducible exact LeO.none _)
   | (with_reducible refine LeO.ite ?_ ?_)
   | (with_reducible refine LeO.bind ?_ (fun _=>?_))
   | exact ih0 _ _ _
   | exact LeO.none _
   | refine LeO.ite ?_ ?_
   | refine LeO.bind ?_ (fun _=>?_)
theorem mosaicref04_Same.mono:∀ a0 a1 k,LeO (mosaicref04_Same.f k a0 a1) (mosaicref04_Same.f (k+1) a0 a1):=by
 intro a0 a1 k
 have ih0:=mosaicref04_Same.mono_l k
 unfold mosaicref04_Same.f
 repeat' first
   | (with_reducible exact ih0 _ _ _)
   | (with_reducible exact LeO.refl _)
   | (with_reducible exact LeO.none _)
   | (with_reducible refine LeO.ite ?_ ?_)
   | (with_reducible refine LeO.bind ?_ (fun _=>?_))
   | exact ih0 _ _ _
   | exact LeO.none _
   | refine LeO.ite ?_ ?_
   | refine LeO.bind ?_ (fun _=>?_)
set_option maxHeartbeats 8000000 in
set_option maxRecDepth 100000 in
theorem mosaicref04_Same.calls (k:Nat) (A0:Option Addr) (c0:Nat) (l0:List Int) (A1:Option Addr) (c1:Nat) (l1:List Int) (r:Bool) (w:World) (hr0:Kd.C (Kd.int .i64) w A0 l0.length l0) (hc0:l0.length≤c0) (hr1:Kd.C (Kd.int .i64) w A1 l1.length l1) (hc1:l1.length≤c1) (h:mosaicref04_Same.f k l0 l1=some r) :
  Calls Try.prog 72 #[.slice A0 l0.length c0,.slice A1 l1.length c1] w fun e w'=>e=.returned (.bool r)∧Drawn0 w w':=by
 have HR0:=Aside0.mk hr0
 have HC0:=Aside0.mk hc0
 clear hr0 hc0
 have HR1:=Aside0.mk hr1
 have HC1:=Aside0.mk hc1
 clear hr1 hc1
 have H:(if (l0.length:Int)=(l1.length:Int) then (mosaicref04_Same.l0 k l0 l1 0) else (some false))=some r:=h
 clear h
 by_cases c3:(l0.length:Int)=(l1.length:Int)
 ·
  rw [if_pos c3] at H
  have c3b0:((l0.length:Int) == (l1.length:Int))=true:=beq_iff_eq.mpr c3
  have c3b1:((l0.length:Int) != (l1.length:Int))=false:=bne_eq_false_iff_eq.mpr c3
  have c3b2:(l0.length == l1.length)=true:=by first|simpa using c3|(simp at c3 ⊢;omega)
  clear c3
  have H':=Aside0.mk H
  clear H
  go_enter Try.func72,Try.ntmps72
  go_wp2
  repeat (go_quiet (fail);try go_wp2)
  go_loopg [5] k (fun kq v5 w'=>∃ (x5_1:Int),v5=.int .i64 x5_1∧Aside0 (mosaicref04_Same.l0 kq l0 l1 x5_1=some r)∧Aside0 (kq≤k)∧Drawn0 w w')
  case atStart=>exact ⟨(0),(by first|rfl|(simp;done)|(simp [*];done)),H',⟨Nat.le_refl _⟩,by repeat (first|exact Drawn0.refl _|apply Drawn0.step)⟩
  case round =>
   clear H'
   try clear c1
   try clear p2
   try clear c3
   try clear c3b0
   try clear c3b1
   try clear c3b2
   obtain ⟨x5_1,rfl,HA,HK1,⟨m1,rfl⟩⟩:=hrel
   cases gk with
   | zero=>exact absurd HA.out (by simp [mosaicref04_Same.l0])
   | succ k1 =>
    have H:=HA.out
    clear HA
    simp only [mosaicref04_Same.l0] at H
    by_cases c4:x5_1 < (l0.length:Int)
    ·
     rw [if_pos c4] at H
     have c4b0:decide (x5_1 < (l0.length:Int))=true:=decide_eq_true c4
     clear c4
     by_cases c5:0≤x5_1
     ·
      rw [if_pos c5] at H
      have c5b0:decide (0≤x5_1)=true:=decide_eq_true c5
      clear c5
      by_cases c6:x5_1 < (l1.length:Int)
      ·
       rw [if_pos c6] at H
       have c6b0:decide (x5_1 < (l1.length:Int))=true:=decide_eq_true c6
       clear c6
       by_cases c7:(rd l0 x5_1)=(rd l1 x5_1)
       ·
        rw [if_pos c7] at H
        have c7b0:((rd l0 x5_1) == (rd l1 x5_1))=true:=beq_iff_eq.mpr c7
        have c7b1:((rd l0 x5_1) != (rd l1 x5_1))=false:=bne_eq_false_iff_eq.mpr c7
        clear c7
        have H':=Aside0.mk H
        clear H
        have p559:0≤(x5_1:Int):=of_decide_eq_true (by first|(with_reducible assumption)|assumption)
        have q559:x5_1 < (l0.length:Int):=of_decide_eq_true (by first|(with_reducible assumption)|assumption)
        obtain ⟨ad559,e559,hx559_0⟩:=Kd.at_int HR0.out x5_1 p559 q559
        cases e559
        replace p559:=eq_true p559
        replace q559:=eq_true q559
        have p560:0≤(x5_1:Int):=of_decide_eq_true (by first|(with_reducible assumption)|assumption)
        have q560:x5_1 < (l1.length:Int):=of_decide_eq_true (by first|(with_reducible assumption)|assumption)
        obtain ⟨ad560,e560,hx560_0⟩:=Kd.at_int HR1.out x5_1 p560 q560
        cases e560
        replace p560:=eq_true p560
        replace q560:=eq_true q560
        go_wp2
        repeat (go_quiet (fail);try go_wp2)
        go_roundg k1
        case measure=>have:=HK1.out;omega
        case rel=>exact ⟨(wrap64 (x5_1+1)),(by first|rfl|(simp;done)|(simp [*];done)),H',⟨by have:=HK1.out;omega⟩,by repeat (first|exact Drawn0.refl _|apply Drawn0.step)⟩
       ·
        rw [if_neg c7] at H
        have c7b0:((rd l0 x5_1) == (rd l1 x5_1))=false:=beq_eq_false_iff_ne.mpr c7
        have c7b1:((rd l0 x5_1) != (rd l1 x5_1))=true:=bne_iff_ne.mpr c7
        obtain rfl:=Option.some.inj H
        have p559:0≤(x5_1:Int):=of_decide_eq_true (by first|(with_reducible assumption)|assumption)
        have q559:x5_1 < (l0.length:Int):=of_decide_eq_true (by first|(with_reducible assumption)|assumption)
        obtain ⟨ad559,e559,hx559_0⟩:=Kd.at_int HR0.out x5_1 p559 q559
        cases e559
        replace p559:=eq_true p559
        replace q559:=eq_true q559
        have p560:0≤(x5_1:Int):=of_decide_eq_true (by first|(with_reducible assumption)|assumption)
        have q560:x5_1 < (l1.length:Int):=of_decide_eq_true (by first|(with_reducible assumption)|assumption)
        obtain ⟨ad560,e560,hx560_0⟩:=Kd.at_int HR1.out x5_1 p560 q560
        cases e560
        replace p560:=eq_true p560
        replace q560:=eq_true q560
        go_wp2
        repeat (go_quiet (fail);try go_wp2)
        go_ret
        exact ⟨by first|rfl|(simp;done)|(simp [*];done),by repeat (first|exact Drawn0.refl _|apply Drawn0.step)⟩
      ·
       rw [if_neg c6] at H
       exact absurd H (by simp)
     ·
      rw [if_neg c5] at H
      exact absurd H (by simp)
    ·
     rw [if_neg c4] at H
     have c4b0:decide (x5_1 < (l0.length:Int))=false:=decide_eq_false c4
     clear c4
     obtain rfl:=Option.some.inj H
     go_wp2
     repeat (go_quiet (fail);try go_wp2)
     go_ret
     exact ⟨by first|rfl|(simp;done)|(simp [*];done),by repeat (first|exact Drawn0.refl _|apply Drawn0.step)⟩
 ·
  rw [if_neg c3] at H
  have c3b0:((l0.length:Int) == (l1.length:Int))=false:=beq_eq_false_iff_ne.mpr c3
  have c3b1:((l0.length:Int) != (l1.length:Int))=true:=bne_iff_ne.mpr c3
  have c3b2:(l0.length == l1.length)=false:=by first|simpa using c3|(simp at c3 ⊢;omega)
  obtain rfl:=Option.some.inj H
  go_enter Try.func72,Try.ntmps72
  go_wp2
  repeat (go_quiet (fail);try go_wp2)
  go_ret
  exact ⟨by first|rfl|(simp;done)|(simp [*];done),by repeat (first|exact Drawn0.refl _|apply Drawn0.step)⟩
end Go.Proofs.Ytelcaepenfjloaa.Print
