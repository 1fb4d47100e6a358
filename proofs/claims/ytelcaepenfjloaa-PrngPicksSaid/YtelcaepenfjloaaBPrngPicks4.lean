/- The proof of the statement PrngPicks of the seat, part 4 of 6: the functions that it reaches, as plain functions, with the walks that show it, and what they come to; the last part ends in the row. No condition beyond the statement's own. -/
import Derived.Shelf.Strings.Builder1
import Derived.Lib.Builder
import Derived.IntWalk
import Derived.Laws.BitsLemmas
import Derived.Test.YtelcaepenfjloaaBPrngPicks1
import Derived.Test.YtelcaepenfjloaaBPrngPicks2
import Derived.Test.YtelcaepenfjloaaBPrngPicks3
/-! #### Pr65 -/
namespace Go.Proofs.Ytelcaepenfjloaa.Print
open Go.RowKit Go.Proofs.YtelcaepenfjloaaW.PrintWords Go.Proofs.YtelcaepenfjloaaW.PrintLast Go.Proofs.YtelcaepenfjloaaW.PrintMore
attribute [local go_sem] max2_int min2_int max_two min_two max_three min_three max_four min_four
set_option linter.unusedVariables false
set_option linter.unusedSimpArgs false
/-! ### mosaicref04_Block: function 65 -/
def mosaicref04_Block.j0:Nat→ByteArray→ByteArray→Bool→Option (ByteArray)
 | 0,_,_,_=>none
 | k+1,x0,x5,x18=>if x18=true then (some (⟨#[]⟩:ByteArray)) else ((mosaicref02_Num.f k (x0.size:Int) 1).bind fun t481=>(if 1+t481.size≤9223372036854775807 then (if ((⟨#[2]⟩:ByteArray) ++ t481).size+x0.size≤9223372036854775807 then (if (((⟨#[2]⟩:ByteArray) ++ t481) ++ x0).size+x5.size≤9223372036854775807 then ((mosaicref01_Sum.f k ((((⟨#[2]⟩:ByteArray) ++ t481) ++ x0) ++ x5)).bind fun t482=>(some t482)) else (none)) else (none)) else (none)))
def mosaicref04_Block.f (k:Nat) (a0:ByteArray) (a1:Int):Option (ByteArray):=(mosaicref02_Put.f k a1 7).bind fun bt479=>(if (a0.size:Int) > 64 then (mosaicref04_Block.j0 k a0 bt479.1 true) else (mosaicref04_Block.j0 k a0 bt479.1 (bt479.2 != 0)))
theorem mosaicref04_Block.mono_l:∀ k,(∀ y0 y1 y2,LeO (mosaicref04_Block.j0 k y0 y1 y2) (mosaicref04_Block.j0 (k+1) y0 y1 y2))
 | 0=>fun _ _ _ r h=>by simp [mosaicref04_Block.j0] at h
 | k+1=>by
  have ih0:=mosaicref04_Block.mono_l k
  ·
   intro y0 y1 y2
   unfold mosaicref04_Block.j0
   repeat' first
   | (with_reducible exact ih0 _ _ _)
   | (with_reducible exact mosaicref01_Sum.mono _ _)
   | (with_reducible exact mosaicref02_Num.mono _ _ _)
   | (with_reducible exact mosaicref02_Put.mono _ _ _)
   | (with_reducible exact LeO.refl _)
   | (with_reducible exact LeO.none _)
   | (with_reducible refine LeO.ite ?_ ?_)
   | (with_reducible refine LeO.bind ?_ (fun _=>?_))
   | exact ih0 _ _ _
   | exact mosaicref01_Sum.mono _ _
   | exact mosaicref02_Num.mono _ _ _
   | exact mosaicref02_Put.mono _ _ _
   | exact LeO.none _
   | refine LeO.ite ?_ ?_
   | refine LeO.bind ?_ (fun _=>?_)
theorem mosaicref04_Block.mono:∀ a0 a1 k,LeO (mosaicref04_Block.f k a0 a1) (mosaicref04_Block.f (k+1) a0 a1):=by
 intro a0 a1 k
 have ih0:=mosaicref04_Block.mono_l k
 unfold mosaicref04_Block.f
 repeat' first
   | (with_reducible exact ih0 _ _ _)
   | (with_reducible exact mosaicref01_Sum.mono _ _)
   | (with_reducible exact mosaicref02_Num.mono _ _ _)
   | (with_reducible exact mosaicref02_Put.mono _ _ _)
   | (with_reducible exact LeO.refl _)
   | (with_reducible exact LeO.none _)
   | (with_reducible refine LeO.ite ?_ ?_)
   | (with_reducible refine LeO.bind ?_ (fun _=>?_))
   | exact ih0 _ _ _
   | exact mosaicref01_Sum.mono _ _
   | exact mosaicref02_Num.mono _ _ _
   | exact mosaicref02_Put.mono _ _ _
   | exact LeO.none _
   | refine LeO.ite ?_ ?_
   | refine LeO.bind ?_ (fun _=>?_)
set_option maxHeartbeats 8000000 in
set_option maxRecDepth 100000 in
theorem mosaicref04_Block.calls (k:Nat) (a0:ByteArray) (a1:Int) (r:ByteArray) (w:World) (h:mosaicref04_Block.f k a0 a1=some r) :
  Calls Try.prog 65 #[.string a0,.int .i64 a1] w fun e w'=>e=.returned (.string r)∧Below w.heap.size w w':=by
 have HB:=Aside0.mk (Below.refl w.heap.size w)
 have H:((mosaicref02_Put.f k a1 7).bind fun bt479=>(if (a0.size:Int) > 64 then (mosaicref04_Block.j0 k a0 bt479.1 true) else (mosaicref04_Block.j0 k a0 bt479.1 (bt479.2 != 0))))=some r:=h
 clear h
 replace H:=Option.bind_eq_some_iff.mp H
 obtain ⟨⟨t479,t480⟩,A30,H⟩:=H
 replace H:(if (a0.size:Int) > 64 then (mosaicref04_Block.j0 k a0 t479 true) else (mosaicref04_Block.j0 k a0 t479 (t480 != 0)))=some r:=H
 have A3:=Aside0.mk A30
 clear A30
 have HC4:=Aside0.mk H
 clear H
 go_enter Try.func65,Try.ntmps65
 go_upto_region 2 with (first|((with_reducible refine gate_callee (f:=103) rfl ?_);refine goesL_ (some 9) rfl rfl Try.func103 (by kernel_rfl) rfl #[.int .i64 a1,.int .i64 7] rfl (by (try simp only [List.map_toArray,List.map_cons,List.map_nil]);first|done|rfl|(simp only [List.length_drop,List.length_take];rfl)) ?_;(with_reducible refine (mosaicref02_Put.calls k a1 7 t479 t480 _ A3.out).mono ?_);rintro e w5 ⟨rfl,hb⟩;refine ⟨_,rfl,?_⟩;have n0_:=Aside0.mk (below_step (by repeat (first|(with_reducible first|exact HB.out|apply below_alloc|apply pw_below_drewN|apply below_drew1)|exact HB.out)) hb);clear HB;have HB:=n0_;clear n0_;(try clear hb);(try clear hb2);(try clear hk);(try clear hi)))
 (try simp only [Act.put,List.setIfInBounds_toArray,List.set_cons_zero,List.set_cons_succ])
 go_cut [18] (fun v18 wc=>∃ (kq:Nat) (x18_3:Bool),v18=.bool x18_3∧Aside0 (mosaicref04_Block.j0 kq a0 t479 x18_3=some r)∧Aside0 (kq≤k)∧Aside0 (Below w.heap.size w wc))
 case first =>
  have H:=HC4.out
  clear HC4
  by_cases c6:(a0.size:Int) > 64
  ·
   rw [if_pos c6] at H
   have c6b0:decide (64 < (a0.size:Int))=true:=decide_eq_true c6
   have c6b1:decide (64 < a0.size)=true:=decide_eq_true (by omega)
   clear c6
   (first|rw [c6b0]|(simp only [i64_w,i32_w];rw [c6b0])|skip)
   have H':=Aside0.mk H
   clear H
   go_wp2
   go_meet
   case rel=>exact ⟨_,(true),(by first|rfl|(simp;done)|(simp [*];done)),H',⟨by first|omega|exact Nat.le_refl _⟩,⟨by repeat (first|(with_reducible first|exact HB.out|apply below_alloc|apply pw_below_drewN|apply below_drew1)|exact HB.out)⟩⟩
  ·
   rw [if_neg c6] at H
   have c6b0:decide (64 < (a0.size:Int))=false:=decide_eq_false c6
   have c6b1:decide (64 < a0.size)=false:=decide_eq_false (by omega)
   clear c6
   (first|rw [c6b0]|(simp only [i64_w,i32_w];rw [c6b0])|skip)
   have H':=Aside0.mk H
   clear H
   go_wp2
   go_meet
   case rel=>exact ⟨_,((t480 != 0)),(by first|rfl|(simp;done)|(simp [*];done)),H',⟨by first|omega|exact Nat.le_refl _⟩,⟨by repeat (first|(with_reducible first|exact HB.out|apply below_alloc|apply pw_below_drewN|apply below_drew1)|exact HB.out)⟩⟩
 case rest =>
  clear HC4
  try clear c1
  try clear p2
  try clear c6
  try clear c6b0
  try clear c6b1
  obtain ⟨kq,x18_3,rfl,HA,HJ3,HB⟩:=hcut
  cases kq with
  | zero=>exact absurd HA.out (by simp [mosaicref04_Block.j0])
  | succ kj3 =>
   have H:=HA.out
   clear HA
   simp only [mosaicref04_Block.j0] at H
   by_cases c7:x18_3=true
   ·
    subst c7
    have H1:(some (⟨#[]⟩:ByteArray))=some r:=by rw [if_pos rfl] at H;exact H
    clear H
    have H:=H1
    clear H1
    obtain rfl:=Option.some.inj H
    go_wp2
    go_ret
    exact ⟨by first|rfl|(simp [errW_none,errW_some] <;> rfl)|(simp [*,errW_none,errW_some] <;> rfl),by repeat (first|(with_reducible first|exact HB.out|apply below_alloc|apply pw_below_drewN|apply below_drew1)|exact HB.out)⟩
   ·
    replace c7:=Bool.eq_false_iff.mpr c7
    subst c7
    have H1:((mosaicref02_Num.f kj3 (a0.size:Int) 1).bind fun t481=>(if 1+t481.size≤9223372036854775807 then (if ((⟨#[2]⟩:ByteArray) ++ t481).size+a0.size≤9223372036854775807 then (if (((⟨#[2]⟩:ByteArray) ++ t481) ++ a0).size+t479.size≤9223372036854775807 then ((mosaicref01_Sum.f kj3 ((((⟨#[2]⟩:ByteArray) ++ t481) ++ a0) ++ t479)).bind fun t482=>(some t482)) else (none)) else (none)) else (none)))=some r:=by rw [if_neg (show ¬ (false=true) by decide)] at H;exact H
    clear H
    have H:=H1
    clear H1
    replace H:=Option.bind_eq_some_iff.mp H
    obtain ⟨t481,A80,H⟩:=H
    replace H:(if 1+t481.size≤9223372036854775807 then (if ((⟨#[2]⟩:ByteArray) ++ t481).size+a0.size≤9223372036854775807 then (if (((⟨#[2]⟩:ByteArray) ++ t481) ++ a0).size+t479.size≤9223372036854775807 then ((mosaicref01_Sum.f kj3 ((((⟨#[2]⟩:ByteArray) ++ t481) ++ a0) ++ t479)).bind fun t482=>(some t482)) else (none)) else (none)) else (none))=some r:=H
    have A8:=Aside0.mk A80
    clear A80
    by_cases c9:1+t481.size≤9223372036854775807
    ·
     rw [if_pos c9] at H
     have c9b0:=eq_true c9
     have c9b1:decide (1+t481.size≤9223372036854775807)=true:=decide_eq_true c9
     try have c9b2:(9223372036854775807 < 1+t481.size)=False:=eq_false (Nat.not_lt.2 c9)
     by_cases c10:((⟨#[2]⟩:ByteArray) ++ t481).size+a0.size≤9223372036854775807
     ·
      rw [if_pos c10] at H
      have c10b0:=eq_true c10
      have c10b1:decide (((⟨#[2]⟩:ByteArray) ++ t481).size+a0.size≤9223372036854775807)=true:=decide_eq_true c10
      try have c10b2:(9223372036854775807 < ((⟨#[2]⟩:ByteArray) ++ t481).size+a0.size)=False:=eq_false (Nat.not_lt.2 c10)
      by_cases c11:(((⟨#[2]⟩:ByteArray) ++ t481) ++ a0).size+t479.size≤9223372036854775807
      ·
       rw [if_pos c11] at H
       have c11b0:=eq_true c11
       have c11b1:decide ((((⟨#[2]⟩:ByteArray) ++ t481) ++ a0).size+t479.size≤9223372036854775807)=true:=decide_eq_true c11
       try have c11b2:(9223372036854775807 < (((⟨#[2]⟩:ByteArray) ++ t481) ++ a0).size+t479.size)=False:=eq_false (Nat.not_lt.2 c11)
       replace H:=Option.bind_eq_some_iff.mp H
       obtain ⟨t482,A120,H⟩:=H
       replace H:(some t482)=some r:=H
       have A12:=Aside0.mk A120
       clear A120
       obtain rfl:=Option.some.inj H
       go_wp2_with (first|((with_reducible refine gate_callee (f:=104) rfl ?_);refine goesL_ (some 21) rfl rfl Try.func104 (by kernel_rfl) rfl #[.int .i64 (a0.size:Int),.int .i64 1] rfl (by (try simp only [List.map_toArray,List.map_cons,List.map_nil]);first|done|rfl|(simp only [List.length_drop,List.length_take];rfl)) ?_;(with_reducible refine (mosaicref02_Num.calls kj3 (a0.size:Int) 1 t481 _ A8.out).mono ?_);rintro e w13 ⟨rfl,hb⟩;refine ⟨_,rfl,?_⟩;have n0_:=Aside0.mk (below_step (by repeat (first|(with_reducible first|exact HB.out|apply below_alloc|apply pw_below_drewN|apply below_drew1)|exact HB.out)) hb);clear HB;have HB:=n0_;clear n0_;(try clear hb);(try clear hb2);(try clear hk);(try clear hi))|((with_reducible refine gate_callee (f:=27) rfl ?_);refine goesL_ (some 27) rfl rfl Try.func27 (by kernel_rfl) rfl #[.string ((((⟨#[2]⟩:ByteArray) ++ t481) ++ a0) ++ t479)] rfl (by (try simp only [List.map_toArray,List.map_cons,List.map_nil]);first|done|rfl|(simp only [List.length_drop,List.length_take];rfl)) ?_;(with_reducible refine (mosaicref01_Sum.calls kj3 ((((⟨#[2]⟩:ByteArray) ++ t481) ++ a0) ++ t479) t482 _ A12.out).mono ?_);rintro e w14 ⟨rfl,hb⟩;refine ⟨_,rfl,?_⟩;have n0_:=Aside0.mk (below_step (by repeat (first|(with_reducible first|exact HB.out|apply below_alloc|apply pw_below_drewN|apply below_drew1)|exact HB.out)) hb);clear HB;have HB:=n0_;clear n0_;(try clear hb);(try clear hb2);(try clear hk);(try clear hi)))
       go_ret
       exact ⟨by first|rfl|(simp [errW_none,errW_some] <;> rfl)|(simp [*,errW_none,errW_some] <;> rfl),by repeat (first|(with_reducible first|exact HB.out|apply below_alloc|apply pw_below_drewN|apply below_drew1)|exact HB.out)⟩
      ·
       rw [if_neg c11] at H
       exact absurd H (by simp)
     ·
      rw [if_neg c10] at H
      exact absurd H (by simp)
    ·
     rw [if_neg c9] at H
     exact absurd H (by simp)
end Go.Proofs.Ytelcaepenfjloaa.Print
/-! #### Pr105 -/
namespace Go.Proofs.Ytelcaepenfjloaa.Print
open Go.RowKit Go.Proofs.YtelcaepenfjloaaW.PrintWords Go.Proofs.YtelcaepenfjloaaW.PrintLast Go.Proofs.YtelcaepenfjloaaW.PrintMore
attribute [local go_sem] max2_int min2_int max_two min_two max_three min_three max_four min_four
set_option linter.unusedVariables false
set_option linter.unusedSimpArgs false
/-! ### mosaicref04_Gen_word: function 105 -/
def mosaicref04_Gen_word.f (k:Nat) (a0_0:ByteArray) (a0_1:Int) (a1:Int):Option (Int):=(mosaicref04_Block.f k a0_0 (wrap64 (Int.tdiv a1 8))).bind fun t484=>(if 0≤(wrap64 (4 * (Int.tmod a1 8))) then (if (wrap64 (4 * (Int.tmod a1 8)))≤(wrap64 ((wrap64 (4 * (Int.tmod a1 8)))+4)) then (if (wrap64 ((wrap64 (4 * (Int.tmod a1 8)))+4))≤(t484.size:Int) then ((mosaicref02_Get.f k (t484.extract ((wrap64 (4 * (Int.tmod a1 8))):Int).toNat ((wrap64 ((wrap64 (4 * (Int.tmod a1 8)))+4)):Int).toNat)).bind fun t485=>(some t485)) else (none)) else (none)) else (none))
theorem mosaicref04_Gen_word.mono:∀ a0 a1 a2 k,LeO (mosaicref04_Gen_word.f k a0 a1 a2) (mosaicref04_Gen_word.f (k+1) a0 a1 a2):=by
 intro a0 a1 a2 k
 unfold mosaicref04_Gen_word.f
 repeat' first
   | (with_reducible exact mosaicref02_Get.mono _ _)
   | (with_reducible exact mosaicref04_Block.mono _ _ _)
   | (with_reducible exact LeO.refl _)
   | (with_reducible exact LeO.none _)
   | (with_reducible refine LeO.ite ?_ ?_)
   | (with_reducible refine LeO.bind ?_ (fun _=>?_))
   | exact mosaicref02_Get.mono _ _
   | exact mosaicref04_Block.mono _ _ _
   | exact LeO.none _
   | refine LeO.ite ?_ ?_
   | refine LeO.bind ?_ (fun _=>?_)
set_option maxHeartbeats 8000000 in
set_option maxRecDepth 100000 in
theorem mosaicref04_Gen_word.calls (k:Nat) (a0_0:ByteArray) (a0_1:Int) (a1:Int) (r:Int) (w:World) (h:mosaicref04_Gen_word.f k a0_0 a0_1 a1=some r) :
  Calls Try.prog 105 #[.agg #[.string a0_0,.int .i64 a0_1],.int .i64 a1] w fun e w'=>e=.returned (.int .i64 r)∧Below w.heap.size w w':=by
 have hu83:=Try.underlying83
 have HB:=Aside0.mk (Below.refl w.heap.size w)
 have H:((mosaicref04_Block.f k a0_0 (wrap64 (Int.tdiv a1 8))).bind fun t484=>(if 0≤(wrap64 (4 * (Int.tmod a1 8))) then (if (wrap64 (4 * (Int.tmod a1 8)))≤(wrap64 ((wrap64 (4 * (Int.tmod a1 8)))+4)) then (if (wrap64 ((wrap64 (4 * (Int.tmod a1 8)))+4))≤(t484.size:Int) then ((mosaicref02_Get.f k (t484.extract ((wrap64 (4 * (Int.tmod a1 8))):Int).toNat ((wrap64 ((wrap64 (4 * (Int.tmod a1 8)))+4)):Int).toNat)).bind fun t485=>(some t485)) else (none)) else (none)) else (none)))=some r:=h
 clear h
 replace H:=Option.bind_eq_some_iff.mp H
 obtain ⟨t484,A30,H⟩:=H
 replace H:(if 0≤(wrap64 (4 * (Int.tmod a1 8))) then (if (wrap64 (4 * (Int.tmod a1 8)))≤(wrap64 ((wrap64 (4 * (Int.tmod a1 8)))+4)) then (if (wrap64 ((wrap64 (4 * (Int.tmod a1 8)))+4))≤(t484.size:Int) then ((mosaicref02_Get.f k (t484.extract ((wrap64 (4 * (Int.tmod a1 8))):Int).toNat ((wrap64 ((wrap64 (4 * (Int.tmod a1 8)))+4)):Int).toNat)).bind fun t485=>(some t485)) else (none)) else (none)) else (none))=some r:=H
 have A3:=Aside0.mk A30
 clear A30
 obtain ⟨ji4,hji4⟩:∃ j_:Int,(wrap64 (4 * (Int.tmod a1 8)))=j_:=⟨_,rfl⟩
 replace H:(if 0≤(ji4) then (if (ji4)≤(wrap64 ((ji4)+4)) then (if (wrap64 ((ji4)+4))≤(t484.size:Int) then ((mosaicref02_Get.f k (t484.extract ((ji4):Int).toNat ((wrap64 ((ji4)+4)):Int).toNat)).bind fun t485=>(some t485)) else (none)) else (none)) else (none))=some r:=by first|(rw [hji4] at H;exact H)|(simp only [hji4] at H ⊢;exact H)
 (try rw [hji4] at A3)
 have hji4w:(IntKind.i64.wrap (4 * (Int.tmod a1 8)))=ji4:=(i64_w _).trans hji4
 by_cases c5:0≤(ji4)
 ·
  rw [if_pos c5] at H
  have c5b0:=eq_true c5
  have c5b1:decide (0≤(ji4))=true:=decide_eq_true c5
  clear c5
  by_cases c6:(ji4)≤(wrap64 ((ji4)+4))
  ·
   rw [if_pos c6] at H
   have c6b0:=eq_true c6
   have c6b1:decide ((ji4)≤(wrap64 ((ji4)+4)))=true:=decide_eq_true c6
   by_cases c7:(wrap64 ((ji4)+4))≤(t484.size:Int)
   ·
    rw [if_pos c7] at H
    have c7b0:=eq_true c7
    have c7b1:decide ((wrap64 ((ji4)+4))≤(t484.size:Int))=true:=decide_eq_true c7
    replace H:=Option.bind_eq_some_iff.mp H
    obtain ⟨t485,A80,H⟩:=H
    replace H:(some t485)=some r:=H
    have A8:=Aside0.mk A80
    clear A80
    obtain rfl:=Option.some.inj H
    go_enter Try.func105,Try.ntmps105
    go_wp2_with (first|((with_reducible refine gate_dst (N:=2) rfl ?_);refine box_event ?hg (N:=2) ?hd (cs:=#[.string a0_0,.int .i64 a0_1]) (t:=83) ?hr ?_;(case hd=>rfl);(case hg=>rfl);(case hr=>first|(go_simp;done)|(go_simp;rfl));intro gb483 hg w9 hbox hb;have n0_:=Aside0.mk (below_step (by repeat (first|(with_reducible first|exact HB.out|apply below_alloc|apply pw_below_drewN|apply below_drew1)|exact HB.out)) hb);have n1_:=Aside0.mk (hbox);have n2_:=Aside0.mk ((by rw [hg];exact (below_size (by repeat (first|(with_reducible first|exact HB.out|apply below_alloc|apply pw_below_drewN|apply below_drew1)|exact HB.out))):w.heap.size≤gb483));have n3_:=Aside0.mk ((by rw [hg];exact (below_size (by repeat (first|(with_reducible first|exact HB.out|apply below_alloc|apply pw_below_drewN|apply below_drew1)|exact HB.out))):w.heap.size≤gb483));clear HB;have HB:=n0_;have BK483:=n1_;have GW483:=n2_;have GE483:=n3_;clear n0_ n1_ n2_ n3_;clear hb hbox hg;have hcz10_0:w9.cell? ⟨gb483,0,none⟩=some (.string a0_0):=(blk_cell BK483.out 0).trans rfl;have hcz10_1:w9.cell? ⟨gb483,1,none⟩=some (.int .i64 a0_1):=(blk_cell BK483.out 1).trans rfl;have hfz10_0:=blk_frozen BK483.out 0;have hfz10_1:=blk_frozen BK483.out 1)|((with_reducible refine gate_callee (f:=65) rfl ?_);refine goesL_ (some 11) rfl rfl Try.func65 (by kernel_rfl) rfl #[.string a0_0,.int .i64 (wrap64 (Int.tdiv a1 8))] rfl (by (try simp only [List.map_toArray,List.map_cons,List.map_nil]);first|done|rfl|(simp only [List.length_drop,List.length_take];rfl)) ?_;(with_reducible refine (mosaicref04_Block.calls k a0_0 (wrap64 (Int.tdiv a1 8)) t484 _ A3.out).mono ?_);rintro e w11 ⟨rfl,hb⟩;refine ⟨_,rfl,?_⟩;have n0_:=Aside0.mk (blk_below (g:=gb483) (o:=.cells #[.string a0_0,.int .i64 a0_1] 83 (0,0)) (by (with_reducible repeat (first|refine blk_drewN ?_ _|refine blk_drew ?_|refine blk_alloc ?_ _));exact BK483.out) hb);have n1_:=Aside0.mk (below_step (by repeat (first|(with_reducible first|exact HB.out|apply below_alloc|apply pw_below_drewN|apply below_drew1|refine below_set ?_ GE483.out)|exact HB.out)) hb);clear BK483;clear HB;have BK483:=n0_;have HB:=n1_;clear n0_ n1_;(try clear hb);(try clear hb2);(try clear hk);(try clear hi))|((with_reducible refine gate_callee (f:=120) rfl ?_);refine goesL_ (some 20) rfl rfl Try.func120 (by kernel_rfl) rfl #[.string (t484.extract ((ji4):Int).toNat ((wrap64 ((ji4)+4)):Int).toNat)] rfl (by (try simp only [List.map_toArray,List.map_cons,List.map_nil]);first|done|(simp only [hji4];rfl)|rfl|(simp only [List.length_drop,List.length_take];rfl)) ?_;(with_reducible refine (mosaicref02_Get.calls k (t484.extract ((ji4):Int).toNat ((wrap64 ((ji4)+4)):Int).toNat) t485 _ A8.out).mono ?_);rintro e w' ⟨rfl,⟨nd,rfl⟩⟩;refine ⟨_,rfl,?_⟩))
    go_ret
    exact ⟨by first|rfl|(simp [errW_none,errW_some] <;> rfl)|(simp only [← hji4];first|rfl|(simp [errW_none,errW_some] <;> rfl))|(simp [*,errW_none,errW_some] <;> rfl),by repeat (first|(with_reducible first|exact HB.out|apply below_alloc|apply pw_below_drewN|apply below_drew1|refine below_set ?_ GE483.out)|exact HB.out)⟩
   ·
    rw [if_neg c7] at H
    exact absurd H (by simp)
  ·
   rw [if_neg c6] at H
   exact absurd H (by simp)
 ·
  rw [if_neg c5] at H
  exact absurd H (by simp)
end Go.Proofs.Ytelcaepenfjloaa.Print
/-! #### Pr66 -/
namespace Go.Proofs.Ytelcaepenfjloaa.Print
open Go.RowKit Go.Proofs.YtelcaepenfjloaaW.PrintWords Go.Proofs.YtelcaepenfjloaaW.PrintLast Go.Proofs.YtelcaepenfjloaaW.PrintMore
attribute [local go_sem] max2_int min2_int max_two min_two max_three min_three max_four min_four
set_option linter.unusedVariables false
set_option linter.unusedSimpArgs false
/-! ### mosaicref04_Gen_Word: function 66 -/
def mosaicref04_Gen_Word.f (k:Nat) (a0_0:ByteArray) (a0_1:Int):Option (ByteArray×Int×Int):=(mosaicref04_Gen_word.f k a0_0 a0_1 a0_1).bind fun t488=>(some (a0_0,wrap64 (a0_1+1),t488))
theorem mosaicref04_Gen_Word.mono:∀ a0 a1 k,LeO (mosaicref04_Gen_Word.f k a0 a1) (mosaicref04_Gen_Word.f (k+1) a0 a1):=by
 intro a0 a1 k
 unfold mosaicref04_Gen_Word.f
 repeat' first
   | (with_reducible exact mosaicref04_Gen_word.mono _ _ _ _)
   | (with_reducible exact LeO.refl _)
   | (with_reducible exact LeO.none _)
   | (with_reducible refine LeO.ite ?_ ?_)
   | (with_reducible refine LeO.bind ?_ (fun _=>?_))
   | exact mosaicref04_Gen_word.mono _ _ _ _
   | exact LeO.none _
   | refine LeO.ite ?_ ?_
   | refine LeO.bind ?_ (fun _=>?_)
def mosaicref04_Gen_Word.T1:Bool×List (List Nat×List Nat):=(true,[([],[]),([0],[0]),([],[]),([2],[2]),([3],[3]),([1,4],[1,4]),([],[]),([],[]),([7],[7]),([6,8],[6,8]),([5,9],[5,9]),([10,9,0,1,2,3,4,5,6,7,8,9,10],[10])])
def mosaicref04_Gen_Word.B1:List Nat:=[0,1,0,4,12,31,0,0,128,448,1023,2047]
theorem mosaicref04_Gen_Word.tab1:rtab .any (opsOf Try.f66 1)=mosaicref04_Gen_Word.T1:=by kernel_rfl
theorem mosaicref04_Gen_Word.bits1:waitsOk mosaicref04_Gen_Word.T1.2 mosaicref04_Gen_Word.B1=true:=by kernel_rfl
set_option maxHeartbeats 8000000 in
set_option maxRecDepth 100000 in
theorem mosaicref04_Gen_Word.calls (k:Nat) (a0_0:ByteArray) (a0_1:Int) (r1:ByteArray) (r2:Int) (r3:Int) (w:World) (h:mosaicref04_Gen_Word.f k a0_0 a0_1=some (r1,r2,r3)) :
  Calls Try.prog 66 #[.agg #[.string a0_0,.int .i64 a0_1]] w fun e w'=>e=.returned (.agg #[.string r1,.int .i64 r2,.int .i64 r3])∧Below w.heap.size w w':=by
 have hu83:=Try.underlying83
 have hu85:=Try.underlying85
 have HB:=Aside0.mk (Below.refl w.heap.size w)
 have H:((mosaicref04_Gen_word.f k a0_0 a0_1 a0_1).bind fun t488=>(some (a0_0,wrap64 (a0_1+1),t488)))=some (r1,r2,r3):=h
 clear h
 replace H:=Option.bind_eq_some_iff.mp H
 obtain ⟨t488,A20,H⟩:=H
 replace H:(some (a0_0,wrap64 (a0_1+1),t488))=some (r1,r2,r3):=H
 have A2:=Aside0.mk A20
 clear A20
 simp only [Option.some.injEq,Prod.mk.injEq] at H
 obtain ⟨rfl,rfl,rfl⟩:=H
 go_enter Try.func66,Try.ntmps66
 try go_wp2_with (first|((with_reducible refine gate_dst (N:=1) rfl ?_);refine box_event ?hg (N:=1) ?hd (cs:=#[.string a0_0,.int .i64 a0_1]) (t:=83) ?hr ?_;(case hd=>rfl);(case hg=>rfl);(case hr=>first|(go_simp;done)|(go_simp;rfl));intro gb486 hg w3 hbox hb;have n0_:=Aside0.mk (below_step (by repeat (first|(with_reducible first|exact HB.out|apply below_alloc|apply pw_below_drewN|apply below_drew1)|exact HB.out)) hb);have n1_:=Aside0.mk (hbox);have n2_:=Aside0.mk ((by rw [hg];exact (below_size (by repeat (first|(with_reducible first|exact HB.out|apply below_alloc|apply pw_below_drewN|apply below_drew1)|exact HB.out))):w.heap.size≤gb486));have n3_:=Aside0.mk ((by rw [hg];exact (below_size (by repeat (first|(with_reducible first|exact HB.out|apply below_alloc|apply pw_below_drewN|apply below_drew1)|exact HB.out))):w.heap.size≤gb486));clear HB;have HB:=n0_;have BK486:=n1_;have GW486:=n2_;have GE486:=n3_;clear n0_ n1_ n2_ n3_;clear hb hbox hg)|((with_reducible refine gate_dst (N:=2) rfl ?_);refine box_event ?hg (N:=2) ?hd (cs:=#[.string (⟨#[]⟩:ByteArray),.int .i64 0,.int .i64 0]) (t:=85) ?hr ?_;(case hd=>rfl);(case hg=>rfl);(case hr=>first|(go_simp;done)|(go_simp;rfl));intro gb487 hg w4 hbox hb;have n0_:=Aside0.mk (blk_below (g:=gb486) (o:=.cells #[.string a0_0,.int .i64 a0_1] 83 (0,0)) (by (with_reducible repeat (first|refine blk_drewN ?_ _|refine blk_drew ?_|refine blk_alloc ?_ _));exact BK486.out) hb);have n1_:=Aside0.mk (below_step (by repeat (first|(with_reducible first|exact HB.out|apply below_alloc|apply pw_below_drewN|apply below_drew1|refine below_set ?_ GE486.out)|exact HB.out)) hb);have n2_:=Aside0.mk (hbox);have n3_:=Aside0.mk ((by rw [hg];exact (below_size (by repeat (first|(with_reducible first|exact HB.out|apply below_alloc|apply pw_below_drewN|apply below_drew1|refine below_set ?_ GE486.out)|exact HB.out))):w.heap.size≤gb487));have n4_:=Aside0.mk ((by rw [hg];exact (below_size (by repeat (first|(with_reducible first|exact HB.out|apply below_alloc|apply pw_below_drewN|apply below_drew1|refine below_set ?_ GE486.out)|exact HB.out))):w.heap.size≤gb487));have n5_:=Aside0.mk ((by rw [hg];exact Nat.ne_of_lt (blk_lt (g:=gb486) (o:=.cells #[.string a0_0,.int .i64 a0_1] 83 (0,0)) (by (with_reducible repeat (first|refine blk_drewN ?_ _|refine blk_drew ?_|refine blk_alloc ?_ _));exact BK486.out)):gb486≠gb487));have n6_:=Aside0.mk ((by rw [hg];exact Nat.ne_of_gt (blk_lt (g:=gb486) (o:=.cells #[.string a0_0,.int .i64 a0_1] 83 (0,0)) (by (with_reducible repeat (first|refine blk_drewN ?_ _|refine blk_drew ?_|refine blk_alloc ?_ _));exact BK486.out)):gb487≠gb486));clear BK486;clear HB;have BK486:=n0_;have HB:=n1_;have BK487:=n2_;have GW487:=n3_;have GE487:=n4_;have NB486_487:=n5_;have NB487_486:=n6_;clear n0_ n1_ n2_ n3_ n4_ n5_ n6_;clear hb hbox hg))
 have n0_:=Aside0.mk (blk_drew BK486.out)
 have n1_:=Aside0.mk (blk_drew BK487.out)
 have n2_:=Aside0.mk (below_drew1 HB.out)
 clear BK486
 clear BK487
 clear HB
 have BK486:=n0_
 have BK487:=n1_
 have HB:=n2_
 clear n0_ n1_ n2_
 refine start_ (n:=12) (S:=fun w'=>w'.cell? ⟨gb486,0,none⟩=some (.string a0_0)∧w'.cell? ⟨gb486,1,none⟩=some (.int .i64 a0_1)) (ds:=[]) #[false,false,false,false,false,false,false,false,false,false,false,false] (by kernel_rfl) rfl rfl ⟨(blk_cell BK486.out 0).trans rfl,(blk_cell BK486.out 1).trans rfl⟩ (fun hHeld=>?_);refine with_tabW mosaicref04_Gen_Word.tab1 mosaicref04_Gen_Word.bits1 (fun HT_ HW_=>?_)
 generalize w4.drew=w5 at BK486 BK487 HB hHeld ⊢
 refine pure_ (i:=0) (N:=some 3) (v:=?_) (a':=?_) #[true,false,false,false,false,false,false,false,false,false,false,false] rfl rfl (any_of HT_.out (by kernel_rfl)) (fun _ _ _ h=>h) (Or.inl ⟨by rfl,?_⟩) ?_ ?_
 rotate_left
 ·
  intro w'
  go_simp
  with_reducible rfl
 rotate_left
 ·
  simp only [Act.put,List.setIfInBounds_toArray,List.set_cons_zero,List.set_cons_succ,i64_w,i32_w]
  rfl
 refine pure_ (i:=2) (N:=some 5) (v:=?_) (a':=?_) #[true,false,true,false,false,false,false,false,false,false,false,false] rfl rfl (any_of HT_.out (by kernel_rfl)) (fun _ _ _ h=>h) (Or.inl ⟨by rfl,?_⟩) ?_ ?_
 rotate_left
 ·
  intro w'
  go_simp
  with_reducible rfl
 rotate_left
 ·
  simp only [Act.put,List.setIfInBounds_toArray,List.set_cons_zero,List.set_cons_succ,i64_w,i32_w]
  rfl
 refine pure_ (i:=7) (N:=some 10) (v:=?_) (a':=?_) #[true,false,true,false,false,false,false,true,false,false,false,false] rfl rfl (any_of HT_.out (by kernel_rfl)) (fun _ _ _ h=>h) (Or.inl ⟨by rfl,?_⟩) ?_ ?_
 rotate_left
 ·
  intro w'
  go_simp
  with_reducible rfl
 rotate_left
 ·
  simp only [Act.put,List.setIfInBounds_toArray,List.set_cons_zero,List.set_cons_succ,i64_w,i32_w]
  rfl
 refine take_ (i:=1) (N:=some 4) (v:=?_) (a':=?_) #[true,true,true,false,false,false,false,true,false,false,false,false] rfl rfl (take_ofW HT_.out HW_.out (by kernel_rfl)) (fun _ _ _ h=>h) (Or.inl ⟨by rfl,?_⟩) hHeld ?_ ?_
 rotate_left
 ·
  rintro w' ⟨s0,s1⟩
  go_simp
  with_reducible rfl
 rotate_left
 ·
  simp only [Act.put,List.setIfInBounds_toArray,List.set_cons_zero,List.set_cons_succ,i64_w,i32_w]
  rfl
 refine take_ (i:=3) (N:=some 6) (v:=?_) (a':=?_) #[true,true,true,true,false,false,false,true,false,false,false,false] rfl rfl (take_ofW HT_.out HW_.out (by kernel_rfl)) (fun _ _ _ h=>h) (Or.inl ⟨by rfl,?_⟩) hHeld ?_ ?_
 rotate_left
 ·
  rintro w' ⟨s0,s1⟩
  go_simp
  with_reducible rfl
 rotate_left
 ·
  simp only [Act.put,List.setIfInBounds_toArray,List.set_cons_zero,List.set_cons_succ,i64_w,i32_w]
  rfl
 refine pure_ (i:=4) (N:=some 7) (v:=?_) (a':=?_) #[true,true,true,true,true,false,false,true,false,false,false,false] rfl rfl (any_of HT_.out (by kernel_rfl)) (fun _ _ _ h=>h) (Or.inl ⟨by rfl,?_⟩) ?_ ?_
 rotate_left
 ·
  intro w'
  go_simp
  with_reducible rfl
 rotate_left
 ·
  simp only [Act.put,List.setIfInBounds_toArray,List.set_cons_zero,List.set_cons_succ,i64_w,i32_w]
  rfl
 refine pure_ (i:=5) (N:=some 8) (v:=?_) (a':=?_) #[true,true,true,true,true,true,false,true,false,false,false,false] rfl rfl (any_of HT_.out (by kernel_rfl)) (fun _ _ _ h=>h) (Or.inl ⟨by rfl,?_⟩) ?_ ?_
 rotate_left
 ·
  intro w'
  go_simp
  with_reducible rfl
 rotate_left
 ·
  simp only [Act.put,List.setIfInBounds_toArray,List.set_cons_zero,List.set_cons_succ,i64_w,i32_w]
  rfl
 refine take_ (i:=6) (N:=some 9) (v:=?_) (a':=?_) #[true,true,true,true,true,true,true,true,false,false,false,false] rfl rfl (take_ofW HT_.out HW_.out (by kernel_rfl)) (fun _ _ _ h=>h) (Or.inl ⟨by rfl,?_⟩) hHeld ?_ ?_
 rotate_left
 ·
  rintro w' ⟨s0,s1⟩
  go_simp
  with_reducible rfl
 rotate_left
 ·
  simp only [Act.put,List.setIfInBounds_toArray,List.set_cons_zero,List.set_cons_succ,i64_w,i32_w]
  rfl
 refine take_ (i:=8) (N:=some 11) (v:=?_) (a':=?_) #[true,true,true,true,true,true,true,true,true,false,false,false] rfl rfl (take_ofW HT_.out HW_.out (by kernel_rfl)) (fun _ _ _ h=>h) (Or.inl ⟨by rfl,?_⟩) hHeld ?_ ?_
 rotate_left
 ·
  rintro w' ⟨s0,s1⟩
  go_simp
  with_reducible rfl
 rotate_left
 ·
  simp only [Act.put,List.setIfInBounds_toArray,List.set_cons_zero,List.set_cons_succ,i64_w,i32_w]
  rfl
 refine one_ (i:=9) (N:=some 12) #[true,true,true,true,true,true,true,true,true,true,false,false] rfl rfl (one_of HT_.out (by kernel_rfl)) (by decide) (fun K hK=>?_)
 refine goes_ Try.func105 (by kernel_rfl) rfl #[.agg #[.string a0_0,.int .i64 a0_1],.int .i64 a0_1] (by rfl) rfl rfl (by (try simp only [List.map_toArray,List.map_cons,List.map_nil]);first|done|rfl|(simp only [List.length_drop,List.length_take];rfl)) ?_
 with_reducible refine (mosaicref04_Gen_word.calls k a0_0 a0_1 a0_1 t488 _ A2.out).mono ?_
 rintro e w6 ⟨rfl,hb⟩
 refine ⟨_,rfl,?_⟩
 have n0_:=Aside0.mk (blk_below (g:=gb486) (o:=.cells #[.string a0_0,.int .i64 a0_1] 83 (0,0)) (by (with_reducible repeat (first|refine blk_drewN ?_ _|refine blk_drew ?_|refine blk_alloc ?_ _));exact BK486.out) hb)
 have n1_:=Aside0.mk (blk_below (g:=gb487) (o:=.cells #[.string (⟨#[]⟩:ByteArray),.int .i64 0,.int .i64 0] 85 (0,0)) (by (with_reducible repeat (first|refine blk_drewN ?_ _|refine blk_drew ?_|refine blk_alloc ?_ _));exact BK487.out) hb)
 have n2_:=Aside0.mk (below_step (by repeat (first|(with_reducible first|exact HB.out|apply below_alloc|apply pw_below_drewN|apply below_drew1|refine below_set ?_ GE486.out|refine below_set ?_ GE487.out)|exact HB.out)) hb)
 clear BK486
 clear BK487
 clear HB
 have BK486:=n0_
 have BK487:=n1_
 have HB:=n2_
 clear n0_ n1_ n2_
 (try clear hb)
 (try clear hb2)
 (try clear hk)
 (try clear hi)
 refine hK.out _ _ ⟨(blk_cell BK486.out 0).trans rfl,(blk_cell BK486.out 1).trans rfl⟩ (fun hHeld=>?_)
 clear hK K
 refine norm_ (a':=?_) ?_ ?_
 rotate_left
 ·
  show Act.put _ (some 12) _=_
  simp only [Act.put,List.setIfInBounds_toArray,List.set_cons_zero,List.set_cons_succ,i64_w,i32_w]
  rfl
 refine pure_ (i:=10) (N:=some 13) (v:=?_) (a':=?_) #[true,true,true,true,true,true,true,true,true,true,true,false] rfl rfl (any_of HT_.out (by kernel_rfl)) (fun _ _ _ h=>h) (Or.inl ⟨by rfl,?_⟩) ?_ ?_
 rotate_left
 ·
  intro w'
  go_simp
  with_reducible rfl
 rotate_left
 ·
  simp only [Act.put,List.setIfInBounds_toArray,List.set_cons_zero,List.set_cons_succ,i64_w,i32_w]
  rfl
 refine one_ (i:=11) (N:=none) #[true,true,true,true,true,true,true,true,true,true,true,true] rfl rfl (one_of HT_.out (by kernel_rfl)) (by decide) (fun K hK=>?_)
 have hs7:w6.cell? ⟨gb487,0,none⟩=some (.string (⟨#[]⟩:ByteArray)):=(blk_cell BK487.out 0).trans rfl
 have hfs7:=blk_frozen BK487.out 0
 have hns7_0:=NB486_487.out
 have hms7_0:=NB487_486.out
 have hs8:w6.cell? ⟨gb487,1,none⟩=some (.int .i64 0):=(blk_cell BK487.out 1).trans rfl
 have hfs8:=blk_frozen BK487.out 1
 have hns8_0:=NB486_487.out
 have hms8_0:=NB487_486.out
 have hs9:w6.cell? ⟨gb487,2,none⟩=some (.int .i64 0):=(blk_cell BK487.out 2).trans rfl
 have hfs9:=blk_frozen BK487.out 2
 have hns9_0:=NB486_487.out
 have hms9_0:=NB487_486.out
 refine skip_ (w1:=?_) (by rfl) rfl ?_ ?_
 rotate_left
 ·
  go_simp
  rfl
 refine hK.out _ _ ⟨((cell_far (p:=⟨gb487,_,none⟩) NB486_487.out _).trans (((cell_far (p:=⟨gb487,_,none⟩) NB486_487.out _).trans (((cell_far (p:=⟨gb487,_,none⟩) NB486_487.out _).trans (hHeld.1)))))),((cell_far (p:=⟨gb487,_,none⟩) NB486_487.out _).trans (((cell_far (p:=⟨gb487,_,none⟩) NB486_487.out _).trans (((cell_far (p:=⟨gb487,_,none⟩) NB486_487.out _).trans (hHeld.2))))))⟩ (fun hHeld=>?_)
 clear hK K
 refine done_ (done_of HT_.out (by kernel_rfl)) ?_
 try go_wp2
 refine bodyPost_ret (results_cell_row rfl _ _ gb487 85 #[.string a0_0,.int .i64 (wrap64 (a0_1+1)),.int .i64 t488] (0,0) _ rfl (by (with_reducible repeat (first|refine blk_drewN ?_ _|refine blk_drew ?_|refine blk_alloc ?_ _));refine blk_put (cs:=#[.string a0_0,.int .i64 (wrap64 (a0_1+1)),.int .i64 0]) ?_ 2 _ rfl;(with_reducible repeat (first|refine blk_drewN ?_ _|refine blk_drew ?_|refine blk_alloc ?_ _));refine blk_put (cs:=#[.string a0_0,.int .i64 0,.int .i64 0]) ?_ 1 _ rfl;(with_reducible repeat (first|refine blk_drewN ?_ _|refine blk_drew ?_|refine blk_alloc ?_ _));refine blk_put (cs:=#[.string (⟨#[]⟩:ByteArray),.int .i64 0,.int .i64 0]) ?_ 0 _ rfl;(with_reducible repeat (first|refine blk_drewN ?_ _|refine blk_drew ?_|refine blk_alloc ?_ _));exact BK487.out) Try.underlying85 rfl (by kernel_rfl)) rfl ?_
 exact ⟨by first|rfl|(simp [errW_none,errW_some] <;> rfl)|(simp [*,errW_none,errW_some] <;> rfl),by repeat (first|(with_reducible first|exact HB.out|apply below_alloc|apply pw_below_drewN|apply below_drew1|refine below_set ?_ GE486.out|refine below_set ?_ GE487.out)|exact HB.out)⟩
end Go.Proofs.Ytelcaepenfjloaa.Print
/-! #### MaShaHex -/
/- sha.Hex: bytes in hexadecimal digits (strings.Builder). -/
namespace Go.Proofs.Ytelcaepenfjloaa.Print
open Go.RowKit Go.Proofs.YtelcaepenfjloaaW.PrintWords Go.Proofs.YtelcaepenfjloaaW.PrintLast Go.Proofs.YtelcaepenfjloaaW.PrintMore
open Go.Shelf
set_option linter.unusedVariables false
set_option linter.unusedSimpArgs false
def lays169_ren:Go.Shelf.Ren:=⟨fun|169=>90|n=>n,fun|70=>119|9=>9|0=>0|72=>121|37=>47|127=>148|3=>3|5=>5|n=>n,fun|n=>n⟩
theorem lays169:Go.Proofs.Lays.n169 Try.prog lays169_ren:={
 mixed:=by kernel_rfl
 f169:=Try.func90.trans (congrArg some (by kernel_rfl))
 t0:=Try.underlying0
 a0:=Try.isAgg0
 z0:=Try.sizeOf0
 v0:=Try.zeroValue0
 t3:=Try.underlying3
 a3:=Try.isAgg3
 z3:=Try.sizeOf3
 v3:=Try.zeroValue3
 t9:=Try.underlying9
 a9:=Try.isAgg9
 z9:=Try.sizeOf9
 v9:=Try.zeroValue9
 t37:=Try.underlying47
 a37:=Try.isAgg47
 z37:=Try.sizeOf47
 v37:=Try.zeroValue47
 t70:=Try.underlying119
 a70:=Try.isAgg119
 z70:=Try.sizeOf119
 v70:=Try.zeroValue119
 t72:=Try.underlying121
 a72:=Try.isAgg121
 z72:=Try.sizeOf121
 v72:=Try.zeroValue121
 t127:=Try.underlying148
 a127:=Try.isAgg148
 z127:=Try.sizeOf148
 v127:=Try.zeroValue148 }
theorem Builder_Extra_169:Go.Proofs.Builder.Extra Try.prog lays169_ren:={
 sizeBuilder:=by kernel_rfl
 liesBuilder:=by kernel_rfl
 t5:=Try.underlying5
 a5:=Try.isAgg5
 z5:=Try.sizeOf5
 v5:=Try.zeroValue5
 infoByte:=by kernel_rfl
 cellsByte:=by kernel_rfl
 sizeByte:=by kernel_rfl
 neB5:=by decide }
/-- What a builder that the call has made holds, handed back as a text. -/
theorem builderString_calls (B b:Nat) (l:List UInt8) (w:World) (h:Lib.IsBuilder 121 5 B b (Lib.byteCells l) w) (hBw:B≤w.heap.size) :
  Calls Try.prog 90 #[.pointer (some ⟨b,0,none⟩)] w fun e w'=>e=.returned (.string ⟨l.toArray⟩)∧Below B w w':=Go.Proofs.Any.Builder_String_any lays169 Builder_Extra_169 B b l w h hBw
theorem infoByte_:(Try.prog.info? 5).map (fun i=>(i.zero,i.size,i.bytes))=some (some (.int .u8 0),1,1):=by kernel_rfl
set_option maxHeartbeats 1000000 in
set_option maxRecDepth 100000 in
theorem copyCheck_used (b:Nat) (w:World) (h0:w.cell? ⟨b,0,none⟩=some (.pointer (some ⟨b,0,none⟩))) :
  Calls Try.prog 116 #[.pointer (some ⟨b,0,none⟩)] w fun e w'=>e=.returned (.tuple #[])∧w'=w:=by
 obtain ⟨j,hj,_⟩:=Option.map_eq_some_iff.1 Builder_Extra_169.sizeBuilder
 go_enter Try.func116,Try.ntmps116
 go_wp2
 rw [Lib.run_neq_ptr_same w _ Try.underlying119 hj]
 go_wp2
 go_end0
 exact ⟨rfl,rfl⟩
set_option maxHeartbeats 1000000 in
set_option maxRecDepth 100000 in
theorem copyCheck_fresh (b:Nat) (w:World) (h0:w.cell? ⟨b,0,none⟩=some (.pointer none)) (hsh:w.shape? b=some (121,2)) (hfz:w.frozen? ⟨b,0,none⟩=false) :
  Calls Try.prog 116 #[.pointer (some ⟨b,0,none⟩)] w fun e w'=>e=.returned (.tuple #[])∧w'=w.setCell ⟨b,0,none⟩ (.pointer (some ⟨b,0,none⟩)):=by
 obtain ⟨j,hj,hjs⟩:=Option.map_eq_some_iff.1 Builder_Extra_169.sizeBuilder
 go_enter Try.func116,Try.ntmps116
 go_wp2
 rw [Lib.run_to_unsafe w ⟨b,0,none⟩ Try.underlying119 Try.underlying152 hj (by rw [hjs];decide) hsh (Nat.zero_lt_succ 1)]
 simp only [Result.andThen]
 rw [Oper.upon_value]
 go_wp2
 rw [run_callFunc_extern Try.func125 (by kernel_rfl) (by kernel_rfl) (by kernel_rfl) (e:=Extern.AbiNoEscape.same) (by kernel_rfl)]
 rw [Lib.run_noEscape]
 simp only [Result.andThen]
 rw [Oper.upon_value]
 go_wp2
 rw [Lib.run_from_unsafe w ⟨b,0,none⟩ Try.underlying152 Try.underlying119 hj hsh Builder_Extra_169.liesBuilder]
 simp only [Result.andThen]
 rw [Oper.upon_value]
 go_wp2
 go_end0
 exact ⟨rfl,rfl⟩
theorem copyCheck_calls (B b:Nat) (bs:List Value) (w:World) (h:Lib.IsBuilder 121 5 B b bs w) :
  Calls Try.prog 116 #[.pointer (some ⟨b,0,none⟩)] w fun e w'=>e=.returned (.tuple #[])∧(Lib.BuilderAt 121 5 B b (.pointer (some ⟨b,0,none⟩)) bs w'∧Below B w w'):=by
 rcases h with h|h
 ·
  refine (copyCheck_fresh b w h.cell0 h.shape h.frozen0).mono ?_
  rintro e w' ⟨rfl,rfl⟩
  exact ⟨rfl,h.used _,(Below.refl B w).setCell (p:=⟨b,0,none⟩) h.1 _⟩
 ·
  refine (copyCheck_used b w h.cell0).mono ?_
  rintro e w' ⟨rfl,rfl⟩
  exact ⟨rfl,h,Below.refl B _⟩
set_option maxHeartbeats 2000000 in
set_option maxRecDepth 100000 in
theorem writeByte_calls (B b:Nat) (bs:List Value) (c:Int) (w:World) (h:Lib.IsBuilder 121 5 B b bs w) (hlen:bs.length+1≤140737488355328) (hBw:B≤w.heap.size) :
  Calls Try.prog 89 #[.pointer (some ⟨b,0,none⟩),.int .u8 c] w fun e w'=>e=.returned .nilIface∧(Lib.BuilderAt 121 5 B b (.pointer (some ⟨b,0,none⟩)) (bs ++ [.int .u8 c]) w'∧Below B w w'):=by
 obtain ⟨i0,hi,hz0,hz1,hz2⟩:=info_parts infoByte_
 go_enter Try.func89,Try.ntmps89
 go_wp2_with (go_at_call 116;refine (copyCheck_calls B b bs _ h).mono ?_)
 rintro e w1 ⟨rfl,h1,hb1⟩
 obtain ⟨hB,v,hbk,hown,hne⟩:=h1
 have c0:w1.cell? ⟨b,0,none⟩=some (.pointer (some ⟨b,0,none⟩)):=by rw [Lib.cell_of_heap hbk];rfl
 have c1:w1.cell? ⟨b,1,none⟩=some v:=by rw [Lib.cell_of_heap hbk];rfl
 go_wp2_with (at_builtin;refine wpList_append_own _ rfl _ _ 47 rfl B 5 i0 (.int .u8 0) 1 1 Try.underlying47 hi hz0 hz1 hz2 rfl (by decide) _ _ _ rfl (hown.alloc _) ⟨w1.heap.size,0,none⟩ 1 1 [.int .u8 c] rfl rfl ?c1 ?c2 ?c3 ?c4 ?c5 ?_)
 case c1 =>
  intro j u hj
  match j,hj with
  | 0,hj=>simp at hj;subst hj;simp [Addr.add]
 case c2=>intro u hu;simp at hu;subst hu;rfl
 case c3=>unfold maxLen;omega
 case c4=>omega
 case c5=>have:=hb1.size;simp;omega
 intro v' w2 hown' hgrow _
 have hlt:b < w1.heap.size:=by
  rcases Nat.lt_or_ge b w1.heap.size with h'|h'
  ·
   exact h'
  ·
   simp [Array.getElem?_eq_none h'] at hbk
 have hb2:w2.heap[b]?=some (.cells #[.pointer (some ⟨b,0,none⟩),v] 121 (0,0)):=by
  rw [hgrow.block b (by simp;omega) (fun e=>hne e.symm),Lib.alloc_old w1 _ b hlt]
  exact hbk
 have d0:w2.cell? ⟨b,0,none⟩=some (.pointer (some ⟨b,0,none⟩)):=by rw [Lib.cell_of_heap hb2];rfl
 have d1:w2.cell? ⟨b,1,none⟩=some v:=by rw [Lib.cell_of_heap hb2];rfl
 have f1:w2.frozen? ⟨b,1,none⟩=false:=Lib.frozen_of_heap hb2 1
 obtain ⟨g,cap,rfl⟩:∃ g cap,v'=.slice (some ⟨g,0,none⟩) (bs.length+1) cap:=by
  rcases hown'.2 with ⟨_,h0⟩|⟨g,cap,cur,hv,_⟩
  ·
   omega
  ·
   exact ⟨g,cap,hv⟩
 go_wp2
 go_ret
 refine ⟨rfl,?_,?_⟩
 ·
  exact Lib.BuilderAt.put (T:=121) (e:=5) hB hb2 (bs':=bs ++ [.int .u8 c]) (by simpa using hown') (by decide)
 ·
  exact ((hb1.alloc (by have:=hb1.size;omega) _).grown hgrow (by have:=hb1.size;simp;omega) (fun k hk=>(hown.lt k hk).1)).setCell (p:=⟨b,1,none⟩) hB _
def hexDigits:ByteArray:=⟨#[48,49,50,51,52,53,54,55,56,57,97,98,99,100,101,102]⟩
def hexTwo (c:Int):List Int:=[bt hexDigits (c / 16),bt hexDigits (c % 16)]
def hexL (l:List Int):List Int:=l.flatMap hexTwo
def sha_Hex.f (a0:ByteArray):Option ByteArray:=if a0.size≤70368744177664 then some (strOfNums (hexL (bytesOf a0))) else none
theorem hexL_step (l:List Int) (i:Nat) (h:i < l.length):hexL (l.take (i+1))=hexL (l.take i) ++ hexTwo (l.getD i 0):=by
 unfold hexL
 rw [List.take_succ_eq_append_getElem h,List.flatMap_append,List.getD_eq_getElem?_getD,List.getElem?_eq_getElem h]
 simp
theorem hexL_length (l:List Int):(hexL l).length=2 * l.length:=by
 induction l with
 | nil=>rfl
 | cons a l ih=>rw [hexL,List.flatMap_cons,List.length_append,← hexL,ih];simp [hexTwo];omega
theorem nums_bytes (xs:List Int) (h:∀ x∈xs,0≤x∧x≤255):nums .u8 xs=Lib.byteCells (xs.map fun n=>UInt8.ofNat n.toNat):=by
 unfold nums Lib.byteCells
 rw [List.map_map]
 refine List.map_congr_left fun x hx=>?_
 have:=h x hx
 have e:(UInt8.ofNat x.toNat).toNat=x.toNat:=UInt8.toNat_ofNat_of_lt' (by show x.toNat < 256;omega)
 simp only [Function.comp,e]
 congr 1
 omega
theorem hexL_range (l:List Int):∀ x∈hexL l,0≤x∧x≤255:=by
 intro x hx
 obtain ⟨c,_,hc⟩:=List.mem_flatMap.1 hx
 simp only [hexTwo,List.mem_cons,List.not_mem_nil,or_false] at hc
 rcases hc with rfl|rfl
 ·
  exact bt_range _ _
 ·
  exact bt_range _ _
set_option maxHeartbeats 800000 in
set_option maxRecDepth 100000 in
theorem sha_Hex.calls (a0:ByteArray) (r:ByteArray) (w:World) (h:sha_Hex.f a0=some r) :
  Calls Try.prog 42 #[.string a0] w fun e w'=>e=.returned (.string r)∧Below w.heap.size w w':=by
 unfold sha_Hex.f at h
 by_cases hs:a0.size≤70368744177664
 ·
  rw [if_pos hs] at h
  have hr:=(Option.some.inj h).symm
  clear h
  have HR:=Aside0.mk hr
  clear hr
  go_enter Try.func42,Try.ntmps42
  go_wp2
  go_loopg [4,7] (a0.size+1) (fun gg _ v7 wr=>∃ i:Nat,i+gg=a0.size+1∧v7=.int .i64 (i:Int)∧Aside0 (Lib.IsBuilder 121 5 w.heap.size w.heap.size (nums .u8 (hexL ((bytesOf a0).take i))) wr)∧Aside0 (Below w.heap.size w wr))
  case atStart=>exact ⟨0,by omega,rfl,⟨.inl ⟨Nat.le_refl _,_,heap_alloc_new _ _,World.ownsRow_nil ..,by simp [Value.ownBlock]⟩⟩,⟨below_alloc (Below.refl _ _) _⟩⟩
  case round =>
   obtain ⟨i,hi,rfl,HO,HB⟩:=hrel
   by_cases hlt:i < a0.size
   ·
    obtain ⟨gg,rfl⟩:∃ m,gk=m+1:=⟨gk - 1,by omega⟩
    have hltz:(i:Int) < (a0.size:Int):=by omega
    have p0:0≤(i:Int):=by omega
    have hx:((a0[i]'hlt).toNat:Int)=bt a0 (i:Int):=bt_at a0 (i:Int) hlt
    have hst:=hexL_step (bytesOf a0) i (by rw [bytesOf_length];exact hlt)
    rw [show (bytesOf a0).getD i 0=bt a0 (i:Int) by rw [← rd_bytesOf];simp [rd]] at hst
    have hlen:(nums .u8 (hexL ((bytesOf a0).take i))).length+2≤140737488355328:=by
     rw [nums_length,hexL_length,List.length_take]
     omega
    have hrg:=bt_range a0 (i:Int)
    generalize bt a0 (i:Int)=c at hx hst hrg
    generalize hbs:hexL ((bytesOf a0).take i)=bs at HO hst hlen
    have HST:=Aside0.mk hst
    have HLEN:=Aside0.mk hlen
    clear hst hlen hbs
    obtain ⟨j1,hj1⟩:∃ j:Int,c / 16=j:=⟨_,rfl⟩
    obtain ⟨j2,hj2⟩:∃ j:Int,Go.bits .and .u8 c 15=j:=⟨_,rfl⟩
    have e2:c % 16=j2:=by rw [← hj2,u8_and15 c hrg.1 (by omega)]
    have p1:0≤j1:=by omega
    have q1:j1 < 16:=by omega
    have p2:0≤j2:=by omega
    have q2:j2 < 16:=by omega
    have hx1:=bt_at (⟨#[48,49,50,51,52,53,54,55,56,57,97,98,99,100,101,102]⟩:ByteArray) j1
    have hx2:=bt_at (⟨#[48,49,50,51,52,53,54,55,56,57,97,98,99,100,101,102]⟩:ByteArray) j2
    have E1:=Aside0.mk hj1
    have E2:=Aside0.mk e2
    clear e2
    obtain ⟨d1,hd1⟩:∃ j:Int,bt (⟨#[48,49,50,51,52,53,54,55,56,57,97,98,99,100,101,102]⟩:ByteArray) j1=j:=⟨_,rfl⟩
    obtain ⟨d2,hd2⟩:∃ j:Int,bt (⟨#[48,49,50,51,52,53,54,55,56,57,97,98,99,100,101,102]⟩:ByteArray) j2=j:=⟨_,rfl⟩
    rw [hd1] at hx1
    rw [hd2] at hx2
    have D1:=Aside0.mk hd1
    have D2:=Aside0.mk hd2
    clear hd1 hd2 hrg
    go_wp2_with (first
     | (go_at_call 89;(with_reducible refine (writeByte_calls w.heap.size w.heap.size (nums .u8 bs) d1 _ HO.out (by have:=HLEN.out;omega) HB.out.size).mono ?_);rintro e w1 ⟨rfl,hb1,hl1⟩;have HO1:=Aside0.mk (show Lib.IsBuilder 121 5 w.heap.size w.heap.size _ _ from .inr hb1);have HB1:=Aside0.mk (HB.out.trans (hl1.mono (Nat.le_refl _)));clear HO HB hb1 hl1)
     | (go_at_call 89;(with_reducible refine (writeByte_calls w.heap.size w.heap.size (nums .u8 bs ++ [.int .u8 d1]) d2 _ HO1.out (by have:=HLEN.out;simp only [List.length_append,List.length_cons,List.length_nil];omega) HB1.out.size).mono ?_);rintro e w2 ⟨rfl,hb2,hl2⟩;have HO2:=Aside0.mk hb2;have HB2:=Aside0.mk (HB1.out.trans (hl2.mono (Nat.le_refl _)));clear HO1 HB1 hb2 hl2))
    go_roundg gg
    case measure=>omega
    case rel=>exact ⟨i+1,by omega,by go_num,⟨.inr (by
     rw [HST.out,nums_append]
     have e:nums .u8 (hexTwo c)=[.int .u8 d1,.int .u8 d2]:=by
      unfold hexTwo hexDigits
      rw [E1.out,E2.out,D1.out,D2.out]
      rfl
     rw [e]
     have:=HO2.out
     rw [List.append_assoc] at this
     exact this)⟩,HB2⟩
   ·
    have hltz:¬ (i:Int) < (a0.size:Int):=by omega
    have hall:(bytesOf a0).take i=bytesOf a0:=List.take_of_length_le (by rw [bytesOf_length];omega)
    rw [hall,nums_bytes _ (hexL_range _)] at HO
    clear hall
    go_wp2_with (go_at_call 90;refine (builderString_calls w.heap.size w.heap.size _ _ HO.out HB.out.size).mono ?_;rintro e w1 ⟨rfl,hb1⟩)
    go_ret
    exact ⟨by rw [HR.out];rfl,HB.out.trans (hb1.mono (Nat.le_refl _))⟩
 ·
  rw [if_neg hs] at h
  exact absurd h (by simp)
end Go.Proofs.Ytelcaepenfjloaa.Print
/-! #### Pr25 -/
namespace Go.Proofs.Ytelcaepenfjloaa.Print
open Go.RowKit Go.Proofs.YtelcaepenfjloaaW.PrintWords Go.Proofs.YtelcaepenfjloaaW.PrintLast Go.Proofs.YtelcaepenfjloaaW.PrintMore
attribute [local go_sem] max2_int min2_int max_two min_two max_three min_three max_four min_four
set_option linter.unusedVariables false
set_option linter.unusedSimpArgs false
/-! ### mosaiclaw01_awake: function 25 -/
def mosaiclaw01_awake.f  : Option (Bool):=(sha_Sum.f (⟨#[97,98,99]⟩:ByteArray)).bind fun t115=>((sha_Hex.f t115).bind fun t116=>(if t116.toList=([98,97,55,56,49,54,98,102,56,102,48,49,99,102,101,97,52,49,52,49,52,48,100,101,53,100,97,101,50,50,50,51,98,48,48,51,54,49,97,51,57,54,49,55,55,97,57,99,98,52,49,48,102,102,54,49,102,50,48,48,49,53,97,100]:List UInt8) then ((sha_Sum.f (⟨#[]⟩:ByteArray)).bind fun t117=>((sha_Hex.f t117).bind fun t118=>(some (t118.toList == ([101,51,98,48,99,52,52,50,57,56,102,99,49,99,49,52,57,97,102,98,102,52,99,56,57,57,54,102,98,57,50,52,50,55,97,101,52,49,101,52,54,52,57,98,57,51,52,99,97,52,57,53,57,57,49,98,55,56,53,50,98,56,53,53]:List UInt8))))) else (some false)))
set_option maxHeartbeats 8000000 in
set_option maxRecDepth 100000 in
theorem mosaiclaw01_awake.calls  (r:Bool) (w:World) (h:mosaiclaw01_awake.f  = some r) :
  Calls Try.prog 25 #[] w fun e w'=>e=.returned (.bool r)∧Below w.heap.size w w':=by
 have HB:=Aside0.mk (Below.refl w.heap.size w)
 have H:((sha_Sum.f (⟨#[97,98,99]⟩:ByteArray)).bind fun t115=>((sha_Hex.f t115).bind fun t116=>(if t116.toList=([98,97,55,56,49,54,98,102,56,102,48,49,99,102,101,97,52,49,52,49,52,48,100,101,53,100,97,101,50,50,50,51,98,48,48,51,54,49,97,51,57,54,49,55,55,97,57,99,98,52,49,48,102,102,54,49,102,50,48,48,49,53,97,100]:List UInt8) then ((sha_Sum.f (⟨#[]⟩:ByteArray)).bind fun t117=>((sha_Hex.f t117).bind fun t118=>(some (t118.toList == ([101,51,98,48,99,52,52,50,57,56,102,99,49,99,49,52,57,97,102,98,102,52,99,56,57,57,54,102,98,57,50,52,50,55,97,101,52,49,101,52,54,52,57,98,57,51,52,99,97,52,57,53,57,57,49,98,55,56,53,50,98,56,53,53]:List UInt8))))) else (some false))))=some r:=h
 clear h
 replace H:=Option.bind_eq_some_iff.mp H
 obtain ⟨t115,A10,H⟩:=H
 replace H:((sha_Hex.f t115).bind fun t116=>(if t116.toList=([98,97,55,56,49,54,98,102,56,102,48,49,99,102,101,97,52,49,52,49,52,48,100,101,53,100,97,101,50,50,50,51,98,48,48,51,54,49,97,51,57,54,49,55,55,97,57,99,98,52,49,48,102,102,54,49,102,50,48,48,49,53,97,100]:List UInt8) then ((sha_Sum.f (⟨#[]⟩:ByteArray)).bind fun t117=>((sha_Hex.f t117).bind fun t118=>(some (t118.toList == ([101,51,98,48,99,52,52,50,57,56,102,99,49,99,49,52,57,97,102,98,102,52,99,56,57,57,54,102,98,57,50,52,50,55,97,101,52,49,101,52,54,52,57,98,57,51,52,99,97,52,57,53,57,57,49,98,55,56,53,50,98,56,53,53]:List UInt8))))) else (some false)))=some r:=H
 have A1:=Aside0.mk A10
 clear A10
 replace H:=Option.bind_eq_some_iff.mp H
 obtain ⟨t116,A20,H⟩:=H
 replace H:(if t116.toList=([98,97,55,56,49,54,98,102,56,102,48,49,99,102,101,97,52,49,52,49,52,48,100,101,53,100,97,101,50,50,50,51,98,48,48,51,54,49,97,51,57,54,49,55,55,97,57,99,98,52,49,48,102,102,54,49,102,50,48,48,49,53,97,100]:List UInt8) then ((sha_Sum.f (⟨#[]⟩:ByteArray)).bind fun t117=>((sha_Hex.f t117).bind fun t118=>(some (t118.toList == ([101,51,98,48,99,52,52,50,57,56,102,99,49,99,49,52,57,97,102,98,102,52,99,56,57,57,54,102,98,57,50,52,50,55,97,101,52,49,101,52,54,52,57,98,57,51,52,99,97,52,57,53,57,57,49,98,55,56,53,50,98,56,53,53]:List UInt8))))) else (some false))=some r:=H
 have A2:=Aside0.mk A20
 clear A20
 by_cases c3:t116.toList=([98,97,55,56,49,54,98,102,56,102,48,49,99,102,101,97,52,49,52,49,52,48,100,101,53,100,97,101,50,50,50,51,98,48,48,51,54,49,97,51,57,54,49,55,55,97,57,99,98,52,49,48,102,102,54,49,102,50,48,48,49,53,97,100]:List UInt8)
 ·
  rw [if_pos c3] at H
  have c3b0:(t116.toList == ([98,97,55,56,49,54,98,102,56,102,48,49,99,102,101,97,52,49,52,49,52,48,100,101,53,100,97,101,50,50,50,51,98,48,48,51,54,49,97,51,57,54,49,55,55,97,57,99,98,52,49,48,102,102,54,49,102,50,48,48,49,53,97,100]:List UInt8))=true:=beq_iff_eq.mpr c3
  have c3b1:(t116.toList != ([98,97,55,56,49,54,98,102,56,102,48,49,99,102,101,97,52,49,52,49,52,48,100,101,53,100,97,101,50,50,50,51,98,48,48,51,54,49,97,51,57,54,49,55,55,97,57,99,98,52,49,48,102,102,54,49,102,50,48,48,49,53,97,100]:List UInt8))=false:=bne_eq_false_iff_eq.mpr c3
  clear c3
  replace H:=Option.bind_eq_some_iff.mp H
  obtain ⟨t117,A40,H⟩:=H
  replace H:((sha_Hex.f t117).bind fun t118=>(some (t118.toList == ([101,51,98,48,99,52,52,50,57,56,102,99,49,99,49,52,57,97,102,98,102,52,99,56,57,57,54,102,98,57,50,52,50,55,97,101,52,49,101,52,54,52,57,98,57,51,52,99,97,52,57,53,57,57,49,98,55,56,53,50,98,56,53,53]:List UInt8))))=some r:=H
  have A4:=Aside0.mk A40
  clear A40
  replace H:=Option.bind_eq_some_iff.mp H
  obtain ⟨t118,A50,H⟩:=H
  replace H:(some (t118.toList == ([101,51,98,48,99,52,52,50,57,56,102,99,49,99,49,52,57,97,102,98,102,52,99,56,57,57,54,102,98,57,50,52,50,55,97,101,52,49,101,52,54,52,57,98,57,51,52,99,97,52,57,53,57,57,49,98,55,56,53,50,98,56,53,53]:List UInt8)))=some r:=H
  have A5:=Aside0.mk A50
  clear A50
  obtain rfl:=Option.some.inj H
  go_enter Try.func25,Try.ntmps25
  go_wp2_with (first|((with_reducible refine gate_callee (f:=26) rfl ?_);refine goesL_ (some 1) rfl rfl Try.func26 (by kernel_rfl) rfl #[.string (⟨#[97,98,99]⟩:ByteArray)] rfl (by (try simp only [List.map_toArray,List.map_cons,List.map_nil]);first|done|rfl|(simp only [List.length_drop,List.length_take];rfl)) ?_;(with_reducible refine (sha_Sum.calls (⟨#[97,98,99]⟩:ByteArray) t115 _ A1.out).mono ?_);rintro e w6 ⟨rfl,hb⟩;refine ⟨_,rfl,?_⟩;have n0_:=Aside0.mk (below_step (by repeat (first|(with_reducible first|exact HB.out|apply below_alloc|apply pw_below_drewN|apply below_drew1)|exact HB.out)) hb);clear HB;have HB:=n0_;clear n0_;(try clear hb);(try clear hb2);(try clear hk);(try clear hi))|((with_reducible refine gate_callee (f:=42) rfl ?_);refine goesL_ (some 2) rfl rfl Try.func42 (by kernel_rfl) rfl #[.string t115] rfl (by (try simp only [List.map_toArray,List.map_cons,List.map_nil]);first|done|rfl|(simp only [List.length_drop,List.length_take];rfl)) ?_;(with_reducible refine (sha_Hex.calls t115 t116 _ A2.out).mono ?_);rintro e w7 ⟨rfl,hb⟩;refine ⟨_,rfl,?_⟩;have n0_:=Aside0.mk (below_step (by repeat (first|(with_reducible first|exact HB.out|apply below_alloc|apply pw_below_drewN|apply below_drew1)|exact HB.out)) hb);clear HB;have HB:=n0_;clear n0_;(try clear hb);(try clear hb2);(try clear hk);(try clear hi))|(go_at_call 26;(with_reducible refine (sha_Sum.calls (⟨#[]⟩:ByteArray) t117 _ A4.out).mono ?_);rintro e w8 ⟨rfl,hb⟩;have n0_:=Aside0.mk (below_step (by repeat (first|(with_reducible first|exact HB.out|apply below_alloc|apply pw_below_drewN|apply below_drew1)|exact HB.out)) hb);clear HB;have HB:=n0_;clear n0_;(try clear hb);(try clear hb2);(try clear hk);(try clear hi))|(go_at_call 42;(with_reducible refine (sha_Hex.calls t117 t118 _ A5.out).mono ?_);rintro e w9 ⟨rfl,hb⟩;have n0_:=Aside0.mk (below_step (by repeat (first|(with_reducible first|exact HB.out|apply below_alloc|apply pw_below_drewN|apply below_drew1)|exact HB.out)) hb);clear HB;have HB:=n0_;clear n0_;(try clear hb);(try clear hb2);(try clear hk);(try clear hi)))
  go_ret
  exact ⟨by first|rfl|(simp [errW_none,errW_some] <;> rfl)|(simp [*,errW_none,errW_some] <;> rfl),by repeat (first|(with_reducible first|exact HB.out|apply below_alloc|apply pw_below_drewN|apply below_drew1)|exact HB.out)⟩
 ·
  rw [if_neg c3] at H
  have c3b0:(t116.toList == ([98,97,55,56,49,54,98,102,56,102,48,49,99,102,101,97,52,49,52,49,52,48,100,101,53,100,97,101,50,50,50,51,98,48,48,51,54,49,97,51,57,54,49,55,55,97,57,99,98,52,49,48,102,102,54,49,102,50,48,48,49,53,97,100]:List UInt8))=false:=beq_eq_false_iff_ne.mpr c3
  have c3b1:(t116.toList != ([98,97,55,56,49,54,98,102,56,102,48,49,99,102,101,97,52,49,52,49,52,48,100,101,53,100,97,101,50,50,50,51,98,48,48,51,54,49,97,51,57,54,49,55,55,97,57,99,98,52,49,48,102,102,54,49,102,50,48,48,49,53,97,100]:List UInt8))=true:=bne_iff_ne.mpr c3
  obtain rfl:=Option.some.inj H
  go_enter Try.func25,Try.ntmps25
  go_wp2_with (first|((with_reducible refine gate_callee (f:=26) rfl ?_);refine goesL_ (some 1) rfl rfl Try.func26 (by kernel_rfl) rfl #[.string (⟨#[97,98,99]⟩:ByteArray)] rfl (by (try simp only [List.map_toArray,List.map_cons,List.map_nil]);first|done|rfl|(simp only [List.length_drop,List.length_take];rfl)) ?_;(with_reducible refine (sha_Sum.calls (⟨#[97,98,99]⟩:ByteArray) t115 _ A1.out).mono ?_);rintro e w10 ⟨rfl,hb⟩;refine ⟨_,rfl,?_⟩;have n0_:=Aside0.mk (below_step (by repeat (first|(with_reducible first|exact HB.out|apply below_alloc|apply pw_below_drewN|apply below_drew1)|exact HB.out)) hb);clear HB;have HB:=n0_;clear n0_;(try clear hb);(try clear hb2);(try clear hk);(try clear hi))|((with_reducible refine gate_callee (f:=42) rfl ?_);refine goesL_ (some 2) rfl rfl Try.func42 (by kernel_rfl) rfl #[.string t115] rfl (by (try simp only [List.map_toArray,List.map_cons,List.map_nil]);first|done|rfl|(simp only [List.length_drop,List.length_take];rfl)) ?_;(with_reducible refine (sha_Hex.calls t115 t116 _ A2.out).mono ?_);rintro e w11 ⟨rfl,hb⟩;refine ⟨_,rfl,?_⟩;have n0_:=Aside0.mk (below_step (by repeat (first|(with_reducible first|exact HB.out|apply below_alloc|apply pw_below_drewN|apply below_drew1)|exact HB.out)) hb);clear HB;have HB:=n0_;clear n0_;(try clear hb);(try clear hb2);(try clear hk);(try clear hi)))
  go_ret
  exact ⟨by first|rfl|(simp [errW_none,errW_some] <;> rfl)|(simp [*,errW_none,errW_some] <;> rfl),by repeat (first|(with_reducible first|exact HB.out|apply below_alloc|apply pw_below_drewN|apply below_drew1)|exact HB.out)⟩
end Go.Proofs.Ytelcaepenfjloaa.Print
/-! #### PureW -/
/- Words for pure statements: rounds that suffice (Ev), tests, numbers, lists. -/
namespace Go.Proofs.YtelcaepenfjloaaW.PrintWords
theorem Ev.pos {α:Type} {c:Prop} [Decidable c] {f g:Nat→Option α} {r:α} (h:c) (k:Ev f r):Ev (fun n=>if c then f n else g n) r:=by
 simpa only [if_pos h] using k
theorem Ev.neg {α:Type} {c:Prop} [Decidable c] {f g:Nat→Option α} {r:α} (h:¬ c) (k:Ev g r):Ev (fun n=>if c then f n else g n) r:=by
 simpa only [if_neg h] using k
theorem Ev.some_ {α:Type} {a r:α} (h:a=r):Ev (fun _=>some a) r:=h ▸ Ev.now a
theorem Ev.some_bind {α β:Type} {a:α} {f:Nat→α→Option β} {r:β} (k:Ev (fun n=>f n a) r):Ev (fun n=>(some a).bind (f n)) r:=k
theorem Ev.to {α:Type} {g:Nat→Option α} {r r':α} (h:Ev g r) (e:r=r'):Ev g r':=e ▸ h
/-- A call that has no rounds. -/
theorem Ev.call {α β:Type} {o:Option α} {a:α} {f:Nat→α→Option β} {r:β} (h:o=some a) (k:Ev (fun n=>f n a) r):Ev (fun n=>o.bind (f n)) r:=by
 subst h
 exact k
theorem Ev.succ {α:Type} {g:Nat→Option α} {r:α} (k:Ev (fun n=>g (n+1)) r):Ev g r:=Ev.step (fun _=>rfl) k
end Go.Proofs.YtelcaepenfjloaaW.PrintWords
namespace Go.Proofs.Ytelcaepenfjloaa.Pure
open Go.RowKit Go.Proofs.YtelcaepenfjloaaW.PrintWords
set_option linter.unusedVariables false
theorem wrap_of {x:Int} (h0:-9223372036854775808≤x) (h1:x≤9223372036854775807):wrap64 x=x:=by unfold wrap64;omega
theorem wrap_succ (i:Nat) (h:i < 9223372036854775807):wrap64 ((i:Int)+1)=((i+1:Nat):Int):=by unfold wrap64;omega
theorem wf64 {x:Int} (h:(Lit.int .i64 x).wf=true):-9223372036854775808≤x∧x≤9223372036854775807:=by
 simp only [Lit.wf,Bool.and_eq_true,decide_eq_true_eq] at h
 exact h
theorem rd_nat (l:List Int) (i:Nat):rd l (i:Int)=l.getD i 0:=by simp [rd]
theorem rd_lt (l:List Int) (i:Nat) (h:i < l.length):rd l (i:Int)=l[i]:=by simp [rd,List.getD_eq_getElem?_getD,h]
end Go.Proofs.Ytelcaepenfjloaa.Pure
/-! #### PureSha -/
/- SHA-256 in plain words: the reference's sum is the program's. -/
namespace Go.Proofs.Ytelcaepenfjloaa.Pure
open Go.RowKit Go.Proofs.Ytelcaepenfjloaa.Print Go.Proofs.YtelcaepenfjloaaW.PrintWords Go.Proofs.YtelcaepenfjloaaW.PrintLast Go.Proofs.YtelcaepenfjloaaW.PrintMore
set_option linter.unusedVariables false
set_option linter.unusedSimpArgs false
theorem set_pad (y:List Int) (n:Nat) (v:Int):(y ++ List.replicate (n+1) 0).set y.length v=(y ++ [v]) ++ List.replicate n 0:=by
 rw [List.set_append_right _ _ (Nat.le_refl _),Nat.sub_self,List.replicate_succ,List.set_cons_zero,List.append_assoc]
 rfl
/-! ### The padding, the sum -/
theorem bytesOf_extract (s:ByteArray) (a b:Nat):bytesOf (s.extract a b)=((bytesOf s).drop a).take (b - a):=by
 unfold bytesOf
 rw [ByteArray.data_extract,Array.toList_extract,List.map_take,List.map_drop]
theorem outB_length (st:List Int):(outB st).length=4 * st.length:=by
 induction st with
 | nil=>rfl
 | cons a l ih=>rw [outB,List.flatMap_cons,List.length_append,← outB,ih];simp;omega
theorem blocks_len:∀ (k:Nat) (st l:List Int),st.length=8→(blocks k st l).length=8
 | 0,_,_,h=>h
 | k+1,st,l,h=>by
  rw [blocks]
  split
  ·
   exact blocks_len k _ _ (mixB_len _ _ h)
  ·
   exact h
theorem shaSum_size (s:ByteArray):(shaSum s).size=32:=by
 unfold shaSum
 rw [strOfNums_size,outB_length,blocks_len _ _ _ (hashGo_len _ _ _ _ (by omega) (by simp) rfl).1]
theorem sha_f (s:ByteArray) (h:s.size≤65536):sha_Sum.f s=some (shaSum s):=if_pos h
end Go.Proofs.Ytelcaepenfjloaa.Pure
/-! #### PurePrng1 -/
/- prng in plain words: the bytes of a number, the blocks and the words of a seed. -/
namespace Go.Proofs.Ytelcaepenfjloaa.Pure
open Go.RowKit Go.Proofs.Ytelcaepenfjloaa.Print Go.Proofs.YtelcaepenfjloaaW.PrintWords Go.Proofs.YtelcaepenfjloaaW.PrintLast Go.Proofs.YtelcaepenfjloaaW.PrintMore
set_option linter.unusedVariables false
set_option linter.unusedSimpArgs false
def putL (x:Int):Nat→List Int
 | 0=>[]
 | n+1=>x / 256 ^ n % 256 :: putL x n
theorem putL_length (x:Int):∀ n,(putL x n).length=n
 | 0=>rfl
 | n+1=>by rw [putL,List.length_cons,putL_length x n]
theorem shr_i64 (x:Int) (n:Nat) (h:n≤7):shr .i64 x (wrap64 (8 * (n:Int)))=x / 256 ^ n:=by
 have e:wrap64 (8 * (n:Int))=((8 * n:Nat):Int):=by unfold wrap64;omega
 rw [e]
 unfold shr
 have hb:IntKind.i64.bits=64:=rfl
 rw [hb,Int.toNat_natCast,Nat.min_eq_left (by omega)]
 congr 1
 rcases (by omega:n=0∨n=1∨n=2∨n=3∨n=4∨n=5∨n=6∨n=7) with rfl|rfl|rfl|rfl|rfl|rfl|rfl|rfl <;> rfl
theorem put_l0 (x:Int):∀ (n:Nat) (acc:List Int),n≤7→acc.length≤100 - n→Ev (fun k=>oct_Put.l0 k x acc ((n:Int) - 1)) (strOfNums (acc ++ putL x n),0)
 | 0,acc,h,ha=>by
  refine Ev.succ ?_
  simp only [oct_Put.l0]
  refine Ev.neg (by omega) (Ev.some_ ?_)
  rw [putL,List.append_nil]
 | n+1,acc,h,ha=>by
  refine Ev.succ ?_
  simp only [oct_Put.l0]
  have e:(((n+1:Nat):Int) - 1)=n:=by omega
  have e2:wrap64 ((n:Int) - 1)=(n:Int) - 1:=by unfold wrap64;omega
  have e3:wrap64 (8 * (n:Int))=8 * n:=by unfold wrap64;omega
  rw [e,shr_i64 x n (by omega),e2]
  refine Ev.pos (by omega) (Ev.pos (by rw [e3];omega) (Ev.pos (by omega) ?_))
  have:=put_l0 x n (acc ++ [x / 256 ^ n % 256]) (by omega) (by rw [List.length_append,List.length_singleton];omega)
  rw [List.append_assoc] at this
  exact this
def putR (x:Int):ByteArray×Int:=if 0≤x∧x < 72057594037927936 then (strOfNums (putL x 7),0) else (⟨#[]⟩,8)
theorem put_ev (x:Int):Ev (fun k=>oct_Put.f k x 7) (putR x):=by
 unfold oct_Put.f
 refine Ev.neg (by omega) ?_
 rw [decide_eq_false (by omega)]
 refine Ev.succ ?_
 simp only [oct_Put.j0]
 refine Ev.neg (by simp) ?_
 have e3:wrap64 (8 * (7:Int))=56:=by unfold wrap64;omega
 have es:shr .i64 x (wrap64 (8 * 7))=x / 256 ^ 7:=shr_i64 x 7 (by omega)
 rw [es]
 have hp:(256:Int) ^ 7=72057594037927936:=by decide
 rw [hp]
 unfold putR
 by_cases h0:x < 0
 ·
  rw [if_neg (by omega)]
  exact Ev.pos h0 (Ev.some_ rfl)
 ·
  refine Ev.neg h0 (Ev.pos (by rw [e3];omega) ?_)
  by_cases h1:x < 72057594037927936
  ·
   rw [if_pos ⟨by omega,h1⟩]
   refine Ev.pos (by omega) ?_
   rw [show wrap64 (7 - 1)=((7:Nat):Int) - 1 by decide +kernel]
   exact put_l0 x 7 [] (by omega) (by simp)
  ·
   rw [if_neg (by omega)]
   exact Ev.neg (by omega) (Ev.some_ rfl)
/-! ### Blocks -/
def blockT (seed:ByteArray) (x:Int):ByteArray:=(((⟨#[2]⟩:ByteArray) ++ strOfNums [(seed.size:Int) % 256]) ++ seed) ++ strOfNums (putL x 7)
def blockB (seed:ByteArray) (x:Int):ByteArray:=if 0≤x∧x < 72057594037927936∧seed.size≤64 then shaSum (blockT seed x) else ⟨#[]⟩
theorem two_size:(⟨#[2]⟩:ByteArray).size=1:=rfl
theorem block_ev (seed:ByteArray) (x:Int) (hs:seed.size≤9223372036854775000):Ev (fun k=>prng_Block.f k seed x) (blockB seed x):=by
 unfold prng_Block.f
 refine Ev.bind (put_ev x) ?_
 unfold blockB putR
 by_cases h:0≤x∧x < 72057594037927936
 ·
  rw [if_pos h]
  refine Ev.pos rfl ?_
  by_cases h2:seed.size≤64
  ·
   rw [if_pos (show 0≤x∧x < 72057594037927936∧seed.size≤64 from ⟨h.1,h.2,h2⟩)]
   refine Ev.neg (by omega) (Ev.some_bind ?_)
   have s1:(strOfNums [(seed.size:Int) % 256]).size=1:=by rw [strOfNums_size];rfl
   have s2:(strOfNums (putL x 7)).size=7:=by rw [strOfNums_size,putL_length]
   refine Ev.pos (by omega) (Ev.pos (by simp only [ByteArray.size_append,two_size];omega) (Ev.pos (by simp only [ByteArray.size_append,two_size];omega) ?_))
   refine Ev.call (sha_f _ ?_) (Ev.some_ rfl)
   simp only [ByteArray.size_append,two_size]
   omega
  ·
   rw [if_neg (show ¬ (0≤x∧x < 72057594037927936∧seed.size≤64) by omega)]
   exact Ev.pos (by omega) (Ev.some_ rfl)
 ·
  rw [if_neg h,if_neg (show ¬ (0≤x∧x < 72057594037927936∧seed.size≤64) by omega)]
  exact Ev.neg (by simp) (Ev.some_ rfl)
/-! ### Words -/
def getN (l:List Int) (acc:Int):Int:=l.foldl (fun a b=>a * 256+b) acc
theorem wraps_62 (n:Int) (h₀:0≤n) (h₁:n < 2 ^ 62):IntKind.i64.wrap n=n:=by rw [IntKind.wrap_i64];omega
theorem i64_or8 (x y:Int) (hx₀:0≤x) (hx:x % 256=0) (hx₁:x < 2 ^ 62) (hy₀:0≤y) (hy:y < 256):Go.bits .or .i64 x y=x+y :=
 bits_join .i64 62 (by decide) wraps_62 8 x y hx₀ (by omega) hx₁ hy₀ (by omega) (by omega)
theorem get_l0:∀ (n:Nat) (s:ByteArray) (acc:Int) (m:Nat),s.size=n→n+m≤7→0≤acc→acc < 256 ^ m→Ev (fun k=>oct_Get.l0 k s acc) (getN (bytesOf s) acc)
 | 0,s,acc,m,hs,hm,h0,h1=>by
  refine Ev.succ ?_
  simp only [oct_Get.l0]
  have hb:bytesOf s=[]:=List.eq_nil_of_length_eq_zero (by rw [bytesOf_length];exact hs)
  have hl:s.toList=[]:=by
   have:s.data.toList=[]:=List.eq_nil_of_length_eq_zero (by simpa using hs)
   rw [ByteArray.toList_eq]
   exact this
  refine Ev.pos hl (Ev.some_ ?_)
  rw [hb]
  rfl
 | n+1,s,acc,m,hs,hm,h0,h1=>by
  refine Ev.succ ?_
  simp only [oct_Get.l0]
  have hne:¬ s.toList=([]:List UInt8):=fun e=>by
   rw [ByteArray.toList_eq] at e
   have h2:s.data.toList.length=0:=by rw [e];rfl
   have h3:s.data.toList.length=s.size:=by simp
   omega
  have hr:=bt_range s 0
  have hm4:(256:Int) ^ m≤256 ^ 6:=by
   rcases (by omega:m=0∨m=1∨m=2∨m=3∨m=4∨m=5∨m=6) with rfl|rfl|rfl|rfl|rfl|rfl|rfl <;> decide
  have h6:(256:Int) ^ 6=281474976710656:=by decide
  have e1:wrap64 (acc * 256)=acc * 256:=by unfold wrap64;omega
  have e2:wrap64 (bt s 0)=bt s 0:=by unfold wrap64;omega
  rw [e1,e2,i64_or8 _ _ (by omega) (by omega) (by omega) hr.1 (by omega)]
  refine Ev.neg hne (Ev.pos (by omega) (Ev.pos (by omega) ?_))
  have hsz:(s.extract 1 s.size).size=n:=by rw [ByteArray.size_extract];omega
  have hb:bytesOf s=bt s 0 :: bytesOf (s.extract 1 s.size):=by
   rw [bytesOf_extract,List.take_of_length_le (by rw [List.length_drop,bytesOf_length];omega)]
   have hl:0 < (bytesOf s).length:=by rw [bytesOf_length];omega
   have:=List.drop_eq_getElem_cons hl
   rw [List.drop_zero] at this
   refine this.trans ?_
   congr 1
   have h2:=rd_bytesOf s 0
   rw [← h2]
   simp [rd,List.getD_eq_getElem?_getD,hl]
  have:=get_l0 n (s.extract 1 s.size) (acc * 256+bt s 0) (m+1) hsz (by omega) (by omega) (by rw [Int.pow_succ];omega)
  rw [hb]
  exact this
theorem get_ev (s:ByteArray) (h:s.size≤7):Ev (fun k=>oct_Get.f k s) (getN (bytesOf s) 0):=by
 unfold oct_Get.f
 refine Ev.neg (by omega) (get_l0 s.size s 0 0 rfl (by omega) (by omega) (by decide))
/-- The word that is number i of a seed. -/
def wordI (seed:ByteArray) (i:Int):Int:=getN (bytesOf ((blockB seed (i / 8)).extract (4 * (i % 8)).toNat (4 * (i % 8)+4).toNat)) 0
theorem getN_range:∀ (l:List Int) (acc:Int) (m:Nat),(∀ x∈l,0≤x∧x≤255)→0≤acc→acc < 256 ^ m→0≤getN l acc∧getN l acc < 256 ^ (m+l.length)
 | [],acc,m,h,h0,h1=>⟨h0,h1⟩
 | x :: l,acc,m,h,h0,h1=>by
  have hx:=h x (by simp)
  have:=getN_range l (acc * 256+x) (m+1) (fun y hy=>h y (by simp [hy])) (by omega) (by rw [Int.pow_succ];omega)
  rw [List.length_cons,show m+(l.length+1)=m+1+l.length by omega]
  exact this
theorem bytesOf_range (s:ByteArray):∀ x∈bytesOf s,0≤x∧x≤255:=by
 intro x hx
 unfold bytesOf at hx
 rw [List.mem_map] at hx
 obtain ⟨b,_,rfl⟩:=hx
 have:=b.toNat_lt
 omega
theorem blockB_size (seed:ByteArray) (x:Int) (h:0≤x∧x < 72057594037927936∧seed.size≤64):(blockB seed x).size=32:=by rw [blockB,if_pos h];exact shaSum_size _
theorem wordI_range (seed:ByteArray) (i:Int) (h:0≤i∧i≤2000000000∧seed.size≤64):0≤wordI seed i∧wordI seed i < 4294967296:=by
 have hs:=blockB_size seed (i / 8) ⟨by omega,by omega,h.2.2⟩
 have:=getN_range (bytesOf ((blockB seed (i / 8)).extract (4 * (i % 8)).toNat (4 * (i % 8)+4).toNat)) 0 0 (bytesOf_range _) (by omega) (by decide)
 rw [bytesOf_length,ByteArray.size_extract,hs,show 0+(min (4 * (i % 8)+4).toNat 32 - (4 * (i % 8)).toNat)=4 by omega] at this
 exact this
/-- What stands in a generator behind used words. -/
def GenI (seed:ByteArray) (used:Int) (b:ByteArray):Prop:=seed.size≤64∧0≤used∧(used % 8≠0→b=blockB seed (used / 8))
theorem GenI.start (seed:ByteArray) (h:seed.size≤64) (b:ByteArray):GenI seed 0 b:=⟨h,by omega,fun h=>absurd rfl h⟩
theorem GenI.next {seed:ByteArray} {used:Int} {b:ByteArray} (h:GenI seed used b):GenI seed (used+1) (blockB seed (used / 8)) :=
 ⟨h.1,by have:=h.2.1;omega,fun h8=>by rw [show (used+1) / 8=used / 8 by omega]⟩
theorem word_ev (seed:ByteArray) (used:Int) (b:ByteArray) (h:GenI seed used b) (hu:used≤1000000000):Ev (fun k=>prng_Gen_Word.f k seed used b) (wordI seed used,seed,used+1,blockB seed (used / 8)):=by
 obtain ⟨hs,h0,hb⟩:=h
 unfold prng_Gen_Word.f
 have m:Int.tmod used 8=used % 8:=Int.tmod_eq_emod_of_nonneg h0
 have q:Int.tdiv used 8=used / 8:=Int.tdiv_eq_ediv_of_nonneg h0
 refine Ev.pos ⟨h0,hu⟩ (Ev.bind (a:=blockB seed (used / 8)) ?_ (Ev.bind (a:=wordI seed used) ?_ (Ev.some_ rfl)))
 ·
  unfold wordBlock
  rw [m,q]
  by_cases h8:used % 8=0
  ·
   exact Ev.pos h8 (block_ev seed _ (by omega))
  ·
   exact Ev.neg h8 (Ev.some_ (hb h8))
 ·
  unfold wordPart
  have hsz:=blockB_size seed (used / 8) ⟨by omega,by omega,hs⟩
  rw [m]
  refine Ev.pos (by omega) (Ev.bind (get_ev _ (by rw [ByteArray.size_extract];omega)) (Ev.some_ ?_))
  have:=wordI_range seed used ⟨h0,by omega,hs⟩
  show wordI seed used % 4294967296=_
  omega
end Go.Proofs.Ytelcaepenfjloaa.Pure
/-! #### Pr60 -/
namespace Go.Proofs.Ytelcaepenfjloaa.Print
open Go.RowKit Go.Proofs.YtelcaepenfjloaaW.PrintWords Go.Proofs.YtelcaepenfjloaaW.PrintLast Go.Proofs.YtelcaepenfjloaaW.PrintMore
attribute [local go_sem] max2_int min2_int max_two min_two max_three min_three max_four min_four
set_option linter.unusedVariables false
set_option linter.unusedSimpArgs false
/-! ### prng_Choose: function 60 -/
mutual
def prng_Choose.j0:Nat→List Int→Int→Bool→Option (Int×Int)
 | 0,_,_,_=>none
 | k+1,x0,x1,x15=>if x15=true then (some (0,0)) else (if 0≤(mn (x0.length:Int) 8) then (if (mn (x0.length:Int) 8)≤(x0.length:Int) then (prng_Choose.l0 k (x0.take ((mn (x0.length:Int) 8):Int).toNat) x1 (x0.take ((mn (x0.length:Int) 8):Int).toNat) ((x0.take ((mn (x0.length:Int) 8):Int).toNat).length:Int) 0) else (none)) else (none))
def prng_Choose.l0:Nat→List Int→Int→List Int→Int→Int→Option (Int×Int)
 | 0,_,_,_,_,_=>none
 | k+1,x0,x1,x21,x22,x23=>if x23 < x22 then (if 0≤x23 then (if x23 < (x21.length:Int) then ((prng_bound.f x1).bind fun t413=>(if (wrap64 (rd x21 x23)) < t413 then (if x1=0 then (none) else (some (Int.tmod (wrap64 (rd x21 x23)) x1,wrap64 (x23+1)))) else (prng_Choose.l0 k x0 x1 x21 x22 (wrap64 (x23+1))))) else (none)) else (none)) else (if 0≤(wrap64 ((x0.length:Int) - 1)) then (if (wrap64 ((x0.length:Int) - 1)) < (x0.length:Int) then (if x1=0 then (none) else (some (Int.tmod (wrap64 (rd x0 (wrap64 ((x0.length:Int) - 1)))) x1,(x0.length:Int)))) else (none)) else (none))
end
def prng_Choose.f (k:Nat) (l0:List Int) (a1:Int):Option (Int×Int):=(prng_may.f a1).bind fun t410=>(if t410=true then (prng_Choose.j0 k l0 a1 ((l0.length:Int) == 0)) else (prng_Choose.j0 k l0 a1 true))
theorem prng_Choose.mono_l:∀ k,(∀ y0 y1 y2,LeO (prng_Choose.j0 k y0 y1 y2) (prng_Choose.j0 (k+1) y0 y1 y2))∧(∀ y0 y1 y2 y3 y4,LeO (prng_Choose.l0 k y0 y1 y2 y3 y4) (prng_Choose.l0 (k+1) y0 y1 y2 y3 y4))
 | 0=>⟨fun _ _ _ r h=>by simp [prng_Choose.j0] at h,fun _ _ _ _ _ r h=>by simp [prng_Choose.l0] at h⟩
 | k+1=>by
  obtain ⟨ih0,ih1⟩:=prng_Choose.mono_l k
  refine ⟨?_,?_⟩
  ·
   intro y0 y1 y2
   unfold prng_Choose.j0
   repeat' first
   | (with_reducible exact ih0 _ _ _)
   | (with_reducible exact ih1 _ _ _ _ _)
   | (with_reducible exact LeO.refl _)
   | (with_reducible exact LeO.none _)
   | (with_reducible refine LeO.ite ?_ ?_)
   | (with_reducible refine LeO.bind ?_ (fun _=>?_))
   | exact ih0 _ _ _
   | exact ih1 _ _ _ _ _
   | exact LeO.none _
   | refine LeO.ite ?_ ?_
   | refine LeO.bind ?_ (fun _=>?_)
  ·
   intro y0 y1 y2 y3 y4
   unfold prng_Choose.l0
   repeat' first
   | (with_reducible exact ih0 _ _ _)
   | (with_reducible exact ih1 _ _ _ _ _)
   | (with_reducible exact LeO.refl _)
   | (with_reducible exact LeO.none _)
   | (with_reducible refine LeO.ite ?_ ?_)
   | (with_reducible refine LeO.bind ?_ (fun _=>?_))
   | exact ih0 _ _ _
   | exact ih1 _ _ _ _ _
   | exact LeO.none _
   | refine LeO.ite ?_ ?_
   | refine LeO.bind ?_ (fun _=>?_)
theorem prng_Choose.mono:∀ a0 a1 k,LeO (prng_Choose.f k a0 a1) (prng_Choose.f (k+1) a0 a1):=by
 intro a0 a1 k
 obtain ⟨ih0,ih1⟩:=prng_Choose.mono_l k
 unfold prng_Choose.f
 repeat' first
   | (with_reducible exact ih0 _ _ _)
   | (with_reducible exact ih1 _ _ _ _ _)
   | (with_reducible exact LeO.refl _)
   | (with_reducible exact LeO.none _)
   | (with_reducible refine LeO.ite ?_ ?_)
   | (with_reducible refine LeO.bind ?_ (fun _=>?_))
   | exact ih0 _ _ _
   | exact ih1 _ _ _ _ _
   | exact LeO.none _
   | refine LeO.ite ?_ ?_
   | refine LeO.bind ?_ (fun _=>?_)
set_option maxHeartbeats 8000000 in
set_option maxRecDepth 100000 in
theorem prng_Choose.calls (k:Nat) (A0:Option Addr) (c0:Nat) (l0:List Int) (a1:Int) (r1:Int) (r2:Int) (w:World) (hr0:Kd.C (Kd.int .u32) w A0 l0.length l0) (hc0:l0.length≤c0) (h:prng_Choose.f k l0 a1=some (r1,r2)) :
  Calls Try.prog 60 #[.slice A0 l0.length c0,.int .i64 a1] w fun e w'=>e=.returned (.tuple #[.int .i64 r1,.int .i64 r2])∧Below w.heap.size w w':=by
 have HR0:=Aside0.mk hr0
 have HC0:=Aside0.mk hc0
 clear hr0 hc0
 have HB:=Aside0.mk (Below.refl w.heap.size w)
 have H:((prng_may.f a1).bind fun t410=>(if t410=true then (prng_Choose.j0 k l0 a1 ((l0.length:Int) == 0)) else (prng_Choose.j0 k l0 a1 true)))=some (r1,r2):=h
 clear h
 have HC3:=Aside0.mk H
 clear H
 go_enter Try.func60,Try.ntmps60
 go_upto_region 1 with (fail)
 go_cut [15] (fun v15 wc=>∃ (kq:Nat) (x15_2:Bool),v15=.bool x15_2∧Aside0 (prng_Choose.j0 kq l0 a1 x15_2=some (r1,r2))∧Aside0 (kq≤k)∧Aside0 (Below w.heap.size w wc))
 case first =>
  have H:=HC3.out
  clear HC3
  replace H:=Option.bind_eq_some_iff.mp H
  obtain ⟨t410,A40,H⟩:=H
  replace H:(if t410=true then (prng_Choose.j0 k l0 a1 ((l0.length:Int) == 0)) else (prng_Choose.j0 k l0 a1 true))=some (r1,r2):=H
  have A4:=Aside0.mk A40
  clear A40
  by_cases c5:t410=true
  ·
   subst c5
   have H1:(prng_Choose.j0 k l0 a1 ((l0.length:Int) == 0))=some (r1,r2):=by rw [if_pos rfl] at H;exact H
   clear H
   have H:=H1
   clear H1
   have H':=Aside0.mk H
   clear H
   go_wp2_with (first|((with_reducible refine gate_callee (f:=100) rfl ?_);refine goesL_ (some 9) rfl rfl Try.func100 (by kernel_rfl) rfl #[.int .i64 a1] rfl (by (try simp only [List.map_toArray,List.map_cons,List.map_nil]);first|done|rfl|(simp only [List.length_drop,List.length_take];rfl)) ?_;(with_reducible refine (prng_may.calls a1 true _ A4.out).mono ?_);rintro e w' ⟨rfl,⟨nd,rfl⟩⟩;refine ⟨_,rfl,?_⟩))
   go_meet
   case rel=>exact ⟨_,(((l0.length:Int) == 0)),(by first|rfl|(simp;done)|(simp [*];done)),H',⟨by first|omega|exact Nat.le_refl _⟩,⟨by repeat (first|(with_reducible first|exact HB.out|apply below_alloc|apply pw_below_drewN|apply below_drew1)|exact HB.out)⟩⟩
  ·
   replace c5:=Bool.eq_false_iff.mpr c5
   subst c5
   have H1:(prng_Choose.j0 k l0 a1 true)=some (r1,r2):=by rw [if_neg (show ¬ (false=true) by decide)] at H;exact H
   clear H
   have H:=H1
   clear H1
   have H':=Aside0.mk H
   clear H
   go_wp2_with (first|((with_reducible refine gate_callee (f:=100) rfl ?_);refine goesL_ (some 9) rfl rfl Try.func100 (by kernel_rfl) rfl #[.int .i64 a1] rfl (by (try simp only [List.map_toArray,List.map_cons,List.map_nil]);first|done|rfl|(simp only [List.length_drop,List.length_take];rfl)) ?_;(with_reducible refine (prng_may.calls a1 false _ A4.out).mono ?_);rintro e w' ⟨rfl,⟨nd,rfl⟩⟩;refine ⟨_,rfl,?_⟩))
   go_meet
   case rel=>exact ⟨_,(true),(by first|rfl|(simp;done)|(simp [*];done)),H',⟨by first|omega|exact Nat.le_refl _⟩,⟨by repeat (first|(with_reducible first|exact HB.out|apply below_alloc|apply pw_below_drewN|apply below_drew1)|exact HB.out)⟩⟩
 case rest =>
  clear HC3
  try clear c1
  try clear p2
  try clear c5
  obtain ⟨kq,x15_2,rfl,HA,HJ2,HB⟩:=hcut
  cases kq with
  | zero=>exact absurd HA.out (by simp [prng_Choose.j0])
  | succ kj2 =>
   have H:=HA.out
   clear HA
   simp only [prng_Choose.j0] at H
   by_cases c6:x15_2=true
   ·
    subst c6
    have H1:(some (0,0))=some (r1,r2):=by rw [if_pos rfl] at H;exact H
    clear H
    have H:=H1
    clear H1
    simp only [Option.some.injEq,Prod.mk.injEq] at H
    obtain ⟨rfl,rfl⟩:=H
    go_wp2
    go_ret2
    exact ⟨by first|rfl|(simp [errW_none,errW_some] <;> rfl)|(simp [*,errW_none,errW_some] <;> rfl),by repeat (first|(with_reducible first|exact HB.out|apply below_alloc|apply pw_below_drewN|apply below_drew1)|exact HB.out)⟩
   ·
    replace c6:=Bool.eq_false_iff.mpr c6
    subst c6
    have H1:(if 0≤(mn (l0.length:Int) 8) then (if (mn (l0.length:Int) 8)≤(l0.length:Int) then (prng_Choose.l0 kj2 (l0.take ((mn (l0.length:Int) 8):Int).toNat) a1 (l0.take ((mn (l0.length:Int) 8):Int).toNat) ((l0.take ((mn (l0.length:Int) 8):Int).toNat).length:Int) 0) else (none)) else (none))=some (r1,r2):=by rw [if_neg (show ¬ (false=true) by decide)] at H;exact H
    clear H
    have H:=H1
    clear H1
    obtain ⟨ji7,hji7⟩:∃ j_:Int,(mn (l0.length:Int) 8)=j_:=⟨_,rfl⟩
    replace H:(if 0≤(ji7) then (if (ji7)≤(l0.length:Int) then (prng_Choose.l0 kj2 (l0.take ((ji7):Int).toNat) a1 (l0.take ((ji7):Int).toNat) ((l0.take ((ji7):Int).toNat).length:Int) 0) else (none)) else (none))=some (r1,r2):=by first|(rw [hji7] at H;exact H)|(simp only [hji7] at H ⊢;exact H)
    have hji7_:(if 8 < (l0.length:Int) then 8 else (l0.length:Int))=ji7:=hji7
    by_cases c8:0≤(ji7)
    ·
     rw [if_pos c8] at H
     have c8b0:=eq_true c8
     have c8b1:decide (0≤(ji7))=true:=decide_eq_true c8
     clear c8
     by_cases c9:(ji7)≤(l0.length:Int)
     ·
      rw [if_pos c9] at H
      have c9b0:=eq_true c9
      have c9b1:decide ((ji7)≤(l0.length:Int))=true:=decide_eq_true c9
      clear c9
      have H':=Aside0.mk H
      clear H
      obtain ⟨i010,hi010,_,hsz10,_⟩:=info_parts info27
      obtain ⟨hcut10,hA10,hC10⟩:=print_take_of (P:=Try.prog) (Value.int .u32) 0 33 27 .i64 Try.underlying33 hi010 hsz10 A0 c0 l0 (ji7) (of_decide_eq_true (by first|(with_reducible assumption)|assumption)) (of_decide_eq_true (by first|(with_reducible assumption)|assumption)) HC0.out
      have HR411:=Aside0.mk (Kd.C_of_reads (h1:=fun _=>rfl) (hA10 _ (Kd.reads_of_C HR0.out)))
      have HC411:=Aside0.mk hC10
      obtain ⟨yc,hyc⟩:∃ y_:List Int,y_=(l0.take ((ji7):Int).toNat):=⟨_,rfl⟩
      rw [← hyc] at H'
      replace HR411:Aside0 (Kd.C (Kd.int .u32) w A0 yc.length yc):=by rw [hyc];exact HR411
      replace HC411:Aside0 (yc.length≤c0):=by rw [hyc];exact HC411
      replace hcut10:∀ W:World,(Instr.slice 33 (.slice A0 l0.length c0) none (some (.int .i64 ji7)) none).run Try.prog W=.ok (.slice A0 yc.length c0) W:=by rw [hyc];exact hcut10
      clear hyc
      clear hA10 hC10 hi010 hsz10
      go_wp2
      go_loopg [23] kj2 (fun kq v23 w'=>∃ (x23_2:Int),v23=.int .i64 x23_2∧Aside0 (prng_Choose.l0 kq yc a1 yc (yc.length:Int) x23_2=some (r1,r2))∧Aside0 (kq≤kj2)∧Aside0 (Below w.heap.size w w'))
      case atStart=>exact ⟨(0),(by first|rfl|(simp;done)|(simp [*];done)),H',⟨Nat.le_refl _⟩,⟨by repeat (first|(with_reducible first|exact HB.out|apply below_alloc|apply pw_below_drewN|apply below_drew1)|exact HB.out)⟩⟩
      case round =>
       clear H'
       try clear c1
       try clear p2
       try clear c5
       try clear c6
       try clear c8
       try clear c8b0
       try clear c8b1
       try clear c9
       try clear c9b0
       try clear c9b1
       try clear c10
       try clear p2
       obtain ⟨x23_2,rfl,HA,HK2,HB⟩:=hrel
       cases gk with
       | zero=>exact absurd HA.out (by simp [prng_Choose.l0])
       | succ k2 =>
        have H:=HA.out
        clear HA
        simp only [prng_Choose.l0] at H
        by_cases c11:x23_2 < (yc.length:Int)
        ·
         rw [if_pos c11] at H
         have c11b0:decide (x23_2 < (yc.length:Int))=true:=decide_eq_true c11
         clear c11
         by_cases c12:0≤x23_2
         ·
          rw [if_pos c12] at H
          have c12b0:decide (0≤x23_2)=true:=decide_eq_true c12
          clear c12
          by_cases c13:x23_2 < (yc.length:Int)
          ·
           rw [if_pos c13] at H
           have c13b0:decide (x23_2 < (yc.length:Int))=true:=decide_eq_true c13
           clear c13
           replace H:=Option.bind_eq_some_iff.mp H
           obtain ⟨t413,A140,H⟩:=H
           replace H:(if (wrap64 (rd yc x23_2)) < t413 then (if a1=0 then (none) else (some (Int.tmod (wrap64 (rd yc x23_2)) a1,wrap64 (x23_2+1)))) else (prng_Choose.l0 k2 yc a1 yc (yc.length:Int) (wrap64 (x23_2+1))))=some (r1,r2):=H
           have A14:=Aside0.mk A140
           clear A140
           by_cases c15:(wrap64 (rd yc x23_2)) < t413
           ·
            rw [if_pos c15] at H
            have c15b0:decide ((wrap64 (rd yc x23_2)) < t413)=true:=decide_eq_true c15
            clear c15
            by_cases c16:a1=0
            ·
             rw [if_pos c16] at H
             exact absurd H (by simp)
            ·
             rw [if_neg c16] at H
             have c16b0:(a1 == 0)=false:=beq_eq_false_iff_ne.mpr c16
             have c16b1:(a1 != 0)=true:=bne_iff_ne.mpr c16
             simp only [Option.some.injEq,Prod.mk.injEq] at H
             obtain ⟨rfl,rfl⟩:=H
             have p412:0≤(x23_2:Int):=of_decide_eq_true (by first|(with_reducible assumption)|assumption)
             have q412:x23_2 < (yc.length:Int):=of_decide_eq_true (by first|(with_reducible assumption)|assumption)
             obtain ⟨ad412,e412,hx412_0⟩:=Kd.at_int HR411.out x23_2 p412 q412
             cases e412
             replace hx412_0:=(HB.out.cell (World.block_lt_of_cell? w _ hx412_0)).trans hx412_0
             replace p412:=eq_true p412
             replace q412:=eq_true q412
             go_wp2_with (first|((with_reducible refine gate_callee (f:=101) rfl ?_);refine goesL_ (some 31) rfl rfl Try.func101 (by kernel_rfl) rfl #[.int .i64 a1] rfl (by (try simp only [List.map_toArray,List.map_cons,List.map_nil]);first|done|rfl|(simp only [List.length_drop,List.length_take];rfl)) ?_;(with_reducible refine (prng_bound.calls a1 t413 _ A14.out).mono ?_);rintro e w' ⟨rfl,⟨nd,rfl⟩⟩;refine ⟨_,rfl,?_⟩))
             go_ret2
             exact ⟨by first|rfl|(simp [errW_none,errW_some] <;> rfl)|(simp only [← hji7];first|rfl|(simp [errW_none,errW_some] <;> rfl))|(simp [*,errW_none,errW_some] <;> rfl),by repeat (first|(with_reducible first|exact HB.out|apply below_alloc|apply pw_below_drewN|apply below_drew1)|exact HB.out)⟩
           ·
            rw [if_neg c15] at H
            have c15b0:decide ((wrap64 (rd yc x23_2)) < t413)=false:=decide_eq_false c15
            clear c15
            have H':=Aside0.mk H
            clear H
            have p412:0≤(x23_2:Int):=of_decide_eq_true (by first|(with_reducible assumption)|assumption)
            have q412:x23_2 < (yc.length:Int):=of_decide_eq_true (by first|(with_reducible assumption)|assumption)
            obtain ⟨ad412,e412,hx412_0⟩:=Kd.at_int HR411.out x23_2 p412 q412
            cases e412
            replace hx412_0:=(HB.out.cell (World.block_lt_of_cell? w _ hx412_0)).trans hx412_0
            replace p412:=eq_true p412
            replace q412:=eq_true q412
            go_wp2_with (first|((with_reducible refine gate_callee (f:=101) rfl ?_);refine goesL_ (some 31) rfl rfl Try.func101 (by kernel_rfl) rfl #[.int .i64 a1] rfl (by (try simp only [List.map_toArray,List.map_cons,List.map_nil]);first|done|rfl|(simp only [List.length_drop,List.length_take];rfl)) ?_;(with_reducible refine (prng_bound.calls a1 t413 _ A14.out).mono ?_);rintro e w' ⟨rfl,⟨nd,rfl⟩⟩;refine ⟨_,rfl,?_⟩))
            go_roundg k2
            case measure=>have:=HJ2.out;have:=HK2.out;omega
            case rel=>exact ⟨(wrap64 (x23_2+1)),(by first|rfl|(simp;done)|(simp [*];done)),H',⟨by have:=HJ2.out;have:=HK2.out;omega⟩,⟨by repeat (first|(with_reducible first|exact HB.out|apply below_alloc|apply pw_below_drewN|apply below_drew1)|exact HB.out)⟩⟩
          ·
           rw [if_neg c13] at H
           exact absurd H (by simp)
         ·
          rw [if_neg c12] at H
          exact absurd H (by simp)
        ·
         rw [if_neg c11] at H
         have c11b0:decide (x23_2 < (yc.length:Int))=false:=decide_eq_false c11
         clear c11
         obtain ⟨ji17,hji17⟩:∃ j_:Int,(wrap64 ((yc.length:Int) - 1))=j_:=⟨_,rfl⟩
         replace H:(if 0≤(ji17) then (if (ji17) < (yc.length:Int) then (if a1=0 then (none) else (some (Int.tmod (wrap64 (rd yc (ji17))) a1,(yc.length:Int)))) else (none)) else (none))=some (r1,r2):=by first|(rw [hji17] at H;exact H)|(simp only [hji17] at H ⊢;exact H)
         have hji17w:(IntKind.i64.wrap ((yc.length:Int) - 1))=ji17:=(i64_w _).trans hji17
         by_cases c18:0≤(ji17)
         ·
          rw [if_pos c18] at H
          have c18b0:decide (0≤(ji17))=true:=decide_eq_true c18
          clear c18
          by_cases c19:(ji17) < (yc.length:Int)
          ·
           rw [if_pos c19] at H
           have c19b0:decide ((ji17) < (yc.length:Int))=true:=decide_eq_true c19
           clear c19
           by_cases c20:a1=0
           ·
            rw [if_pos c20] at H
            exact absurd H (by simp)
           ·
            rw [if_neg c20] at H
            have c20b0:(a1 == 0)=false:=beq_eq_false_iff_ne.mpr c20
            have c20b1:(a1 != 0)=true:=bne_iff_ne.mpr c20
            simp only [Option.some.injEq,Prod.mk.injEq] at H
            obtain ⟨rfl,rfl⟩:=H
            have p414:0≤((ji17):Int):=of_decide_eq_true (by first|(with_reducible assumption)|assumption)
            have q414:(ji17) < (yc.length:Int):=of_decide_eq_true (by first|(with_reducible assumption)|assumption)
            obtain ⟨ad414,e414,hx414_0⟩:=Kd.at_int HR411.out (ji17) p414 q414
            cases e414
            replace hx414_0:=(HB.out.cell (World.block_lt_of_cell? w _ hx414_0)).trans hx414_0
            replace p414:=eq_true p414
            replace q414:=eq_true q414
            go_wp2
            go_ret2
            exact ⟨by first|rfl|(simp [errW_none,errW_some] <;> rfl)|(simp only [← hji7,← hji17];first|rfl|(simp [errW_none,errW_some] <;> rfl))|(simp [*,errW_none,errW_some] <;> rfl),by repeat (first|(with_reducible first|exact HB.out|apply below_alloc|apply pw_below_drewN|apply below_drew1)|exact HB.out)⟩
          ·
           rw [if_neg c19] at H
           exact absurd H (by simp)
         ·
          rw [if_neg c18] at H
          exact absurd H (by simp)
     ·
      rw [if_neg c9] at H
      exact absurd H (by simp)
    ·
     rw [if_neg c8] at H
     exact absurd H (by simp)
end Go.Proofs.Ytelcaepenfjloaa.Print
/-! #### Pr61 -/
namespace Go.Proofs.Ytelcaepenfjloaa.Print
open Go.RowKit Go.Proofs.YtelcaepenfjloaaW.PrintWords Go.Proofs.YtelcaepenfjloaaW.PrintLast Go.Proofs.YtelcaepenfjloaaW.PrintMore
attribute [local go_sem] max2_int min2_int max_two min_two max_three min_three max_four min_four
set_option linter.unusedVariables false
set_option linter.unusedSimpArgs false
/-! ### mosaicref04_Choose: function 61 -/
mutual
def mosaicref04_Choose.j0:Nat→List Int→Int→Bool→Option (Int×Int)
 | 0,_,_,_=>none
 | k+1,x0,x1,x19=>if x19=true then (some (0,0)) else (if x1=0 then (none) else (mosaicref04_Choose.l0 k x0 x1 (wrap64 (4294967296 - ((4294967296:Int) % x1))) 0 0 0))
def mosaicref04_Choose.l0:Nat→List Int→Int→Int→Int→Int→Int→Option (Int×Int)
 | 0,_,_,_,_,_,_=>none
 | k+1,x0,x1,x5,x6,x7,x8=>if x8 < (x0.length:Int) then (mosaicref04_Choose.j2 k x0 x1 x5 x6 x7 x8 (decide (x8 < 8))) else (mosaicref04_Choose.j2 k x0 x1 x5 x6 x7 x8 false)
def mosaicref04_Choose.j2:Nat→List Int→Int→Int→Int→Int→Int→Bool→Option (Int×Int)
 | 0,_,_,_,_,_,_,_=>none
 | k+1,x0,x1,x5,x6,x7,x8,x31=>if x31=true then (if 0≤x8 then (if x8 < (x0.length:Int) then (if (wrap64 (rd x0 x8)) < x5 then (if x1=0 then (none) else (some (Int.tmod (wrap64 (rd x0 x8)) x1,wrap64 (x8+1)))) else (mosaicref04_Choose.l0 k x0 x1 x5 (wrap64 (rd x0 x8)) (wrap64 (x8+1)) (wrap64 (x8+1)))) else (none)) else (none)) else (if x1=0 then (none) else (some (Int.tmod x6 x1,x7)))
end
def mosaicref04_Choose.f (k:Nat) (l0:List Int) (a1:Int):Option (Int×Int):=if a1 < 1 then (mosaicref04_Choose.j0 k l0 a1 true) else (if a1 > 2147483647 then (mosaicref04_Choose.j0 k l0 a1 true) else (mosaicref04_Choose.j0 k l0 a1 ((l0.length:Int) == 0)))
theorem mosaicref04_Choose.mono_l:∀ k,(∀ y0 y1 y2,LeO (mosaicref04_Choose.j0 k y0 y1 y2) (mosaicref04_Choose.j0 (k+1) y0 y1 y2))∧(∀ y0 y1 y2 y3 y4 y5,LeO (mosaicref04_Choose.l0 k y0 y1 y2 y3 y4 y5) (mosaicref04_Choose.l0 (k+1) y0 y1 y2 y3 y4 y5))∧(∀ y0 y1 y2 y3 y4 y5 y6,LeO (mosaicref04_Choose.j2 k y0 y1 y2 y3 y4 y5 y6) (mosaicref04_Choose.j2 (k+1) y0 y1 y2 y3 y4 y5 y6))
 | 0=>⟨fun _ _ _ r h=>by simp [mosaicref04_Choose.j0] at h,fun _ _ _ _ _ _ r h=>by simp [mosaicref04_Choose.l0] at h,fun _ _ _ _ _ _ _ r h=>by simp [mosaicref04_Choose.j2] at h⟩
 | k+1=>by
  obtain ⟨ih0,ih1,ih2⟩:=mosaicref04_Choose.mono_l k
  refine ⟨?_,?_,?_⟩
  ·
   intro y0 y1 y2
   unfold mosaicref04_Choose.j0
   repeat' first
   | (with_reducible exact ih0 _ _ _)
   | (with_reducible exact ih1 _ _ _ _ _ _)
   | (with_reducible exact ih2 _ _ _ _ _ _ _)
   | (with_reducible exact LeO.refl _)
   | (with_reducible exact LeO.none _)
   | (with_reducible refine LeO.ite ?_ ?_)
   | (with_reducible refine LeO.bind ?_ (fun _=>?_))
   | exact ih0 _ _ _
   | exact ih1 _ _ _ _ _ _
   | exact ih2 _ _ _ _ _ _ _
   | exact LeO.none _
   | refine LeO.ite ?_ ?_
   | refine LeO.bind ?_ (fun _=>?_)
  ·
   intro y0 y1 y2 y3 y4 y5
   unfold mosaicref04_Choose.l0
   repeat' first
   | (with_reducible exact ih0 _ _ _)
   | (with_reducible exact ih1 _ _ _ _ _ _)
   | (with_reducible exact ih2 _ _ _ _ _ _ _)
   | (with_reducible exact LeO.refl _)
   | (with_reducible exact LeO.none _)
   | (with_reducible refine LeO.ite ?_ ?_)
   | (with_reducible refine LeO.bind ?_ (fun _=>?_))
   | exact ih0 _ _ _
   | exact ih1 _ _ _ _ _ _
   | exact ih2 _ _ _ _ _ _ _
   | exact LeO.none _
   | refine LeO.ite ?_ ?_
   | refine LeO.bind ?_ (fun _=>?_)
  ·
   intro y0 y1 y2 y3 y4 y5 y6
   unfold mosaicref04_Choose.j2
   repeat' first
   | (with_reducible exact ih0 _ _ _)
   | (with_reducible exact ih1 _ _ _ _ _ _)
   | (with_reducible exact ih2 _ _ _ _ _ _ _)
   | (with_reducible exact LeO.refl _)
   | (with_reducible exact LeO.none _)
   | (with_reducible refine LeO.ite ?_ ?_)
   | (with_reducible refine LeO.bind ?_ (fun _=>?_))
   | exact ih0 _ _ _
   | exact ih1 _ _ _ _ _ _
   | exact ih2 _ _ _ _ _ _ _
   | exact LeO.none _
   | refine LeO.ite ?_ ?_
   | refine LeO.bind ?_ (fun _=>?_)
theorem mosaicref04_Choose.mono:∀ a0 a1 k,LeO (mosaicref04_Choose.f k a0 a1) (mosaicref04_Choose.f (k+1) a0 a1):=by
 intro a0 a1 k
 obtain ⟨ih0,ih1,ih2⟩:=mosaicref04_Choose.mono_l k
 unfold mosaicref04_Choose.f
 repeat' first
   | (with_reducible exact ih0 _ _ _)
   | (with_reducible exact ih1 _ _ _ _ _ _)
   | (with_reducible exact ih2 _ _ _ _ _ _ _)
   | (with_reducible exact LeO.refl _)
   | (with_reducible exact LeO.none _)
   | (with_reducible refine LeO.ite ?_ ?_)
   | (with_reducible refine LeO.bind ?_ (fun _=>?_))
   | exact ih0 _ _ _
   | exact ih1 _ _ _ _ _ _
   | exact ih2 _ _ _ _ _ _ _
   | exact LeO.none _
   | refine LeO.ite ?_ ?_
   | refine LeO.bind ?_ (fun _=>?_)
set_option maxHeartbeats 8000000 in
set_option maxRecDepth 100000 in
theorem mosaicref04_Choose.calls (k:Nat) (A0:Option Addr) (c0:Nat) (l0:List Int) (a1:Int) (r1:Int) (r2:Int) (w:World) (hr0:Kd.C (Kd.int .u32) w A0 l0.length l0) (hc0:l0.length≤c0) (h:mosaicref04_Choose.f k l0 a1=some (r1,r2)) :
  Calls Try.prog 61 #[.slice A0 l0.length c0,.int .i64 a1] w fun e w'=>e=.returned (.agg #[.int .i64 r1,.int .i64 r2])∧Below w.heap.size w w':=by
 have hu72:=Try.underlying72
 have HR0:=Aside0.mk hr0
 have HC0:=Aside0.mk hc0
 clear hr0 hc0
 have HB:=Aside0.mk (Below.refl w.heap.size w)
 have H:(if a1 < 1 then (mosaicref04_Choose.j0 k l0 a1 true) else (if a1 > 2147483647 then (mosaicref04_Choose.j0 k l0 a1 true) else (mosaicref04_Choose.j0 k l0 a1 ((l0.length:Int) == 0))))=some (r1,r2):=h
 clear h
 have HC3:=Aside0.mk H
 clear H
 go_enter Try.func61,Try.ntmps61
 go_upto_region 1 with (first|((with_reducible refine gate_dst (N:=4) rfl ?_);(try (refine gate_guard (by rfl) ?_;dsimp only));refine box_event ?hg (N:=4) ?hd (cs:=#[.int .i64 0,.int .i64 0]) (t:=72) ?hr ?_;(case hd=>rfl);(case hg=>rfl);(case hr=>first|(go_simp;done)|(go_simp;rfl));intro gb463 hg w4 hbox hb;have n0_:=Aside0.mk (below_step (by repeat (first|(with_reducible first|exact HB.out|apply below_alloc|apply pw_below_drewN|apply below_drew1)|exact HB.out)) hb);have n1_:=Aside0.mk (hbox);have n2_:=Aside0.mk ((by rw [hg];exact (below_size (by repeat (first|(with_reducible first|exact HB.out|apply below_alloc|apply pw_below_drewN|apply below_drew1)|exact HB.out))):w.heap.size≤gb463));have n3_:=Aside0.mk ((by rw [hg];exact (below_size (by repeat (first|(with_reducible first|exact HB.out|apply below_alloc|apply pw_below_drewN|apply below_drew1)|exact HB.out))):w.heap.size≤gb463));clear HB;have HB:=n0_;have BK463:=n1_;have GW463:=n2_;have GE463:=n3_;clear n0_ n1_ n2_ n3_;clear hb hbox hg))
 (try simp only [Act.put,List.setIfInBounds_toArray,List.set_cons_zero,List.set_cons_succ])
 go_cut [19] (fun v19 wc=>∃ (kq:Nat) (x19_2:Bool),v19=.bool x19_2∧Aside0 (mosaicref04_Choose.j0 kq l0 a1 x19_2=some (r1,r2))∧Aside0 (kq≤k)∧Aside0 (wc.heap[gb463]?=some (.cells #[.int .i64 0,.int .i64 0] 72 (0,0)))∧Aside0 (Below w.heap.size w wc))
 case first =>
  have H:=HC3.out
  clear HC3
  by_cases c5:a1 < 1
  ·
   rw [if_pos c5] at H
   have c5b0:decide (a1 < 1)=true:=decide_eq_true c5
   clear c5
   (first|rw [c5b0]|(simp only [i64_w,i32_w];rw [c5b0])|skip)
   have H':=Aside0.mk H
   clear H
   go_wp2
   go_meet
   case rel=>exact ⟨_,(true),(by first|rfl|(simp;done)|(simp [*];done)),H',⟨by first|omega|exact Nat.le_refl _⟩,⟨by (with_reducible repeat (first|refine blk_drewN ?_ _|refine blk_drew ?_|refine blk_alloc ?_ _));exact BK463.out⟩,⟨by repeat (first|(with_reducible first|exact HB.out|apply below_alloc|apply pw_below_drewN|apply below_drew1|refine below_set ?_ GE463.out)|exact HB.out)⟩⟩
  ·
   rw [if_neg c5] at H
   have c5b0:decide (a1 < 1)=false:=decide_eq_false c5
   clear c5
   (first|rw [c5b0]|(simp only [i64_w,i32_w];rw [c5b0])|skip)
   by_cases c6:a1 > 2147483647
   ·
    rw [if_pos c6] at H
    have c6b0:decide (2147483647 < a1)=true:=decide_eq_true c6
    clear c6
    have H':=Aside0.mk H
    clear H
    go_wp2
    go_meet
    case rel=>exact ⟨_,(true),(by first|rfl|(simp;done)|(simp [*];done)),H',⟨by first|omega|exact Nat.le_refl _⟩,⟨by (with_reducible repeat (first|refine blk_drewN ?_ _|refine blk_drew ?_|refine blk_alloc ?_ _));exact BK463.out⟩,⟨by repeat (first|(with_reducible first|exact HB.out|apply below_alloc|apply pw_below_drewN|apply below_drew1|refine below_set ?_ GE463.out)|exact HB.out)⟩⟩
   ·
    rw [if_neg c6] at H
    have c6b0:decide (2147483647 < a1)=false:=decide_eq_false c6
    clear c6
    have H':=Aside0.mk H
    clear H
    go_wp2
    go_meet
    case rel=>exact ⟨_,(((l0.length:Int) == 0)),(by first|rfl|(simp;done)|(simp [*];done)),H',⟨by first|omega|exact Nat.le_refl _⟩,⟨by (with_reducible repeat (first|refine blk_drewN ?_ _|refine blk_drew ?_|refine blk_alloc ?_ _));exact BK463.out⟩,⟨by repeat (first|(with_reducible first|exact HB.out|apply below_alloc|apply pw_below_drewN|apply below_drew1|refine below_set ?_ GE463.out)|exact HB.out)⟩⟩
 case rest =>
  clear HC3
  try clear p2
  try clear c5
  try clear c5b0
  try clear c6
  try clear c6b0
  obtain ⟨kq,x19_2,rfl,HA,HJ2,BK463,HB⟩:=hcut
  cases kq with
  | zero=>exact absurd HA.out (by simp [mosaicref04_Choose.j0])
  | succ kj2 =>
   have H:=HA.out
   clear HA
   simp only [mosaicref04_Choose.j0] at H
   by_cases c7:x19_2=true
   ·
    subst c7
    have H1:(some (0,0))=some (r1,r2):=by rw [if_pos rfl] at H;exact H
    clear H
    have H:=H1
    clear H1
    simp only [Option.some.injEq,Prod.mk.injEq] at H
    obtain ⟨rfl,rfl⟩:=H
    have hcz8_0:wc.cell? ⟨gb463,0,none⟩=some (.int .i64 0):=(blk_cell BK463.out 0).trans rfl
    have hcz8_1:wc.cell? ⟨gb463,1,none⟩=some (.int .i64 0):=(blk_cell BK463.out 1).trans rfl
    have hfz8_0:=blk_frozen BK463.out 0
    have hfz8_1:=blk_frozen BK463.out 1
    go_wp2
    refine bodyPost_ret (results_cell_row rfl _ _ gb463 72 #[.int .i64 0,.int .i64 0] (0,0) _ rfl (by (with_reducible repeat (first|refine blk_drewN ?_ _|refine blk_drew ?_|refine blk_alloc ?_ _));refine blk_put (cs:=#[.int .i64 0,.int .i64 0]) ?_ 1 _ rfl;(with_reducible repeat (first|refine blk_drewN ?_ _|refine blk_drew ?_|refine blk_alloc ?_ _));refine blk_put (cs:=#[.int .i64 0,.int .i64 0]) ?_ 0 _ rfl;(with_reducible repeat (first|refine blk_drewN ?_ _|refine blk_drew ?_|refine blk_alloc ?_ _));exact BK463.out) Try.underlying72 rfl (by kernel_rfl)) rfl ?_
    exact ⟨by first|rfl|(simp [errW_none,errW_some] <;> rfl)|(simp [*,errW_none,errW_some] <;> rfl),by repeat (first|(with_reducible first|exact HB.out|apply below_alloc|apply pw_below_drewN|apply below_drew1|refine below_set ?_ GE463.out)|exact HB.out)⟩
   ·
    replace c7:=Bool.eq_false_iff.mpr c7
    subst c7
    have H1:(if a1=0 then (none) else (mosaicref04_Choose.l0 kj2 l0 a1 (wrap64 (4294967296 - ((4294967296:Int) % a1))) 0 0 0))=some (r1,r2):=by rw [if_neg (show ¬ (false=true) by decide)] at H;exact H
    clear H
    have H:=H1
    clear H1
    by_cases c9:a1=0
    ·
     rw [if_pos c9] at H
     exact absurd H (by simp)
    ·
     rw [if_neg c9] at H
     have c9b0:(a1 == 0)=false:=beq_eq_false_iff_ne.mpr c9
     have c9b1:(a1 != 0)=true:=bne_iff_ne.mpr c9
     have H':=Aside0.mk H
     clear H
     go_wp2
     go_loopg [6,7,8] kj2 (fun kq v6 v7 v8 w'=>∃ (x6_2:Int) (x7_2:Int) (x8_2:Int) (x464000_2:Int) (x464001_2:Int),v6=.int .i64 x6_2∧v7=.int .i64 x7_2∧v8=.int .i64 x8_2∧Aside0 (mosaicref04_Choose.l0 kq l0 a1 (wrap64 (4294967296 - ((4294967296:Int) % a1))) x6_2 x7_2 x8_2=some (r1,r2))∧Aside0 (kq≤kj2)∧Aside0 (w'.heap[gb463]?=some (.cells #[.int .i64 x464000_2,.int .i64 x464001_2] 72 (0,0)))∧Aside0 (Below w.heap.size w w'))
     case atStart=>exact ⟨(0),(0),(0),(0),(0),(by first|rfl|(simp;done)|(simp [*];done)),(by first|rfl|(simp;done)|(simp [*];done)),(by first|rfl|(simp;done)|(simp [*];done)),H',⟨Nat.le_refl _⟩,⟨by (with_reducible repeat (first|refine blk_drewN ?_ _|refine blk_drew ?_|refine blk_alloc ?_ _));exact BK463.out⟩,⟨by repeat (first|(with_reducible first|exact HB.out|apply below_alloc|apply pw_below_drewN|apply below_drew1|refine below_set ?_ GE463.out)|exact HB.out)⟩⟩
     case round =>
      clear H'
      try clear p2
      try clear c5
      try clear c5b0
      try clear c6
      try clear c6b0
      try clear p6
      try clear c7
      try clear c9
      try clear c9b0
      try clear c9b1
      try clear hcz8_0
      try clear hcz8_1
      try clear hfz8_0
      try clear hfz8_1
      try clear p2
      obtain ⟨x6_2,x7_2,x8_2,x464000_2,x464001_2,rfl,rfl,rfl,HA,HK2,BK463,HB⟩:=hrel
      cases gk with
      | zero=>exact absurd HA.out (by simp [mosaicref04_Choose.l0])
      | succ k2 =>
       have H:=HA.out
       clear HA
       simp only [mosaicref04_Choose.l0] at H
       have HC10:=Aside0.mk H
       clear H
       go_upto_region 7 with (fail)
       go_cut [31] (fun v31 wc=>∃ (kq:Nat) (x31_9:Bool),v31=.bool x31_9∧Aside0 (mosaicref04_Choose.j2 kq l0 a1 (wrap64 (4294967296 - ((4294967296:Int) % a1))) x6_2 x7_2 x8_2 x31_9=some (r1,r2))∧Aside0 (kq≤k2)∧Aside0 (wc.heap[gb463]?=some (.cells #[.int .i64 x464000_2,.int .i64 x464001_2] 72 (0,0)))∧Aside0 (Below w.heap.size w wc))
       case first =>
        have H:=HC10.out
        clear HC10
        by_cases c11:x8_2 < (l0.length:Int)
        ·
         rw [if_pos c11] at H
         have c11b0:decide (x8_2 < (l0.length:Int))=true:=decide_eq_true c11
         clear c11
         (first|rw [c11b0]|(simp only [i64_w,i32_w];rw [c11b0])|skip)
         have H':=Aside0.mk H
         clear H
         go_wp2
         go_meet
         case rel=>exact ⟨_,(decide (x8_2 < 8)),(by first|rfl|(simp;done)|(simp [*];done)),H',⟨by have:=HJ2.out;have:=HK2.out;first|omega|exact Nat.le_refl _⟩,⟨by (with_reducible repeat (first|refine blk_drewN ?_ _|refine blk_drew ?_|refine blk_alloc ?_ _));exact BK463.out⟩,⟨by repeat (first|(with_reducible first|exact HB.out|apply below_alloc|apply pw_below_drewN|apply below_drew1|refine below_set ?_ GE463.out)|exact HB.out)⟩⟩
        ·
         rw [if_neg c11] at H
         have c11b0:decide (x8_2 < (l0.length:Int))=false:=decide_eq_false c11
         clear c11
         (first|rw [c11b0]|(simp only [i64_w,i32_w];rw [c11b0])|skip)
         have H':=Aside0.mk H
         clear H
         go_wp2
         go_meet
         case rel=>exact ⟨_,(false),(by first|rfl|(simp;done)|(simp [*];done)),H',⟨by have:=HJ2.out;have:=HK2.out;first|omega|exact Nat.le_refl _⟩,⟨by (with_reducible repeat (first|refine blk_drewN ?_ _|refine blk_drew ?_|refine blk_alloc ?_ _));exact BK463.out⟩,⟨by repeat (first|(with_reducible first|exact HB.out|apply below_alloc|apply pw_below_drewN|apply below_drew1|refine below_set ?_ GE463.out)|exact HB.out)⟩⟩
       case rest =>
        clear HC10
        try clear c1
        try clear p2
        try clear c5
        try clear c5b0
        try clear c6
        try clear c6b0
        try clear p6
        try clear c7
        try clear c9
        try clear c9b0
        try clear c9b1
        try clear c11
        try clear c11b0
        try clear hcz8_0
        try clear hcz8_1
        try clear hfz8_0
        try clear hfz8_1
        try clear p2
        try clear p6
        obtain ⟨kq,x31_9,rfl,HA,HJ9,BK463,HB⟩:=hcut
        cases kq with
        | zero=>exact absurd HA.out (by simp [mosaicref04_Choose.j2])
        | succ kj9 =>
         have H:=HA.out
         clear HA
         simp only [mosaicref04_Choose.j2] at H
         by_cases c12:x31_9=true
         ·
          subst c12
          have H1:(if 0≤x8_2 then (if x8_2 < (l0.length:Int) then (if (wrap64 (rd l0 x8_2)) < (wrap64 (4294967296 - ((4294967296:Int) % a1))) then (if a1=0 then (none) else (some (Int.tmod (wrap64 (rd l0 x8_2)) a1,wrap64 (x8_2+1)))) else (mosaicref04_Choose.l0 kj9 l0 a1 (wrap64 (4294967296 - ((4294967296:Int) % a1))) (wrap64 (rd l0 x8_2)) (wrap64 (x8_2+1)) (wrap64 (x8_2+1)))) else (none)) else (none))=some (r1,r2):=by rw [if_pos rfl] at H;exact H
          clear H
          have H:=H1
          clear H1
          by_cases c13:0≤x8_2
          ·
           rw [if_pos c13] at H
           have c13b0:decide (0≤x8_2)=true:=decide_eq_true c13
           clear c13
           by_cases c14:x8_2 < (l0.length:Int)
           ·
            rw [if_pos c14] at H
            have c14b0:decide (x8_2 < (l0.length:Int))=true:=decide_eq_true c14
            clear c14
            by_cases c15:(wrap64 (rd l0 x8_2)) < (wrap64 (4294967296 - ((4294967296:Int) % a1)))
            ·
             rw [if_pos c15] at H
             have c15b0:decide ((wrap64 (rd l0 x8_2)) < (wrap64 (4294967296 - ((4294967296:Int) % a1))))=true:=decide_eq_true c15
             clear c15
             by_cases c16:a1=0
             ·
              rw [if_pos c16] at H
              exact absurd H (by simp)
             ·
              rw [if_neg c16] at H
              have c16b0:(a1 == 0)=false:=beq_eq_false_iff_ne.mpr c16
              have c16b1:(a1 != 0)=true:=bne_iff_ne.mpr c16
              simp only [Option.some.injEq,Prod.mk.injEq] at H
              obtain ⟨rfl,rfl⟩:=H
              have p464:0≤(x8_2:Int):=of_decide_eq_true (by first|(with_reducible assumption)|assumption)
              have q464:x8_2 < (l0.length:Int):=of_decide_eq_true (by first|(with_reducible assumption)|assumption)
              obtain ⟨ad464,e464,hx464_0⟩:=Kd.at_int HR0.out x8_2 p464 q464
              cases e464
              replace hx464_0:=(HB.out.cell (World.block_lt_of_cell? w _ hx464_0)).trans hx464_0
              replace p464:=eq_true p464
              replace q464:=eq_true q464
              have hcz17_0:wc.cell? ⟨gb463,0,none⟩=some (.int .i64 x464000_2):=(blk_cell BK463.out 0).trans rfl
              have hcz17_1:wc.cell? ⟨gb463,1,none⟩=some (.int .i64 x464001_2):=(blk_cell BK463.out 1).trans rfl
              have hfz17_0:=blk_frozen BK463.out 0
              have hfz17_1:=blk_frozen BK463.out 1
              go_wp2
              refine bodyPost_ret (results_cell_row rfl _ _ gb463 72 #[.int .i64 (Int.tmod (wrap64 (rd l0 x8_2)) a1),.int .i64 (wrap64 (x8_2+1))] (0,0) _ rfl (by (with_reducible repeat (first|refine blk_drewN ?_ _|refine blk_drew ?_|refine blk_alloc ?_ _));refine blk_put (cs:=#[.int .i64 (Int.tmod (wrap64 (rd l0 x8_2)) a1),.int .i64 x464001_2]) ?_ 1 _ rfl;(with_reducible repeat (first|refine blk_drewN ?_ _|refine blk_drew ?_|refine blk_alloc ?_ _));refine blk_put (cs:=#[.int .i64 x464000_2,.int .i64 x464001_2]) ?_ 0 _ rfl;(with_reducible repeat (first|refine blk_drewN ?_ _|refine blk_drew ?_|refine blk_alloc ?_ _));exact BK463.out) Try.underlying72 rfl (by kernel_rfl)) rfl ?_
              exact ⟨by first|rfl|(simp [errW_none,errW_some] <;> rfl)|(simp [*,errW_none,errW_some] <;> rfl),by repeat (first|(with_reducible first|exact HB.out|apply below_alloc|apply pw_below_drewN|apply below_drew1|refine below_set ?_ GE463.out)|exact HB.out)⟩
            ·
             rw [if_neg c15] at H
             have c15b0:decide ((wrap64 (rd l0 x8_2)) < (wrap64 (4294967296 - ((4294967296:Int) % a1))))=false:=decide_eq_false c15
             clear c15
             have H':=Aside0.mk H
             clear H
             have p464:0≤(x8_2:Int):=of_decide_eq_true (by first|(with_reducible assumption)|assumption)
             have q464:x8_2 < (l0.length:Int):=of_decide_eq_true (by first|(with_reducible assumption)|assumption)
             obtain ⟨ad464,e464,hx464_0⟩:=Kd.at_int HR0.out x8_2 p464 q464
             cases e464
             replace hx464_0:=(HB.out.cell (World.block_lt_of_cell? w _ hx464_0)).trans hx464_0
             replace p464:=eq_true p464
             replace q464:=eq_true q464
             go_wp2
             go_roundg kj9
             case measure=>have:=HJ2.out;have:=HK2.out;have:=HJ9.out;omega
             case rel=>exact ⟨(wrap64 (rd l0 x8_2)),(wrap64 (x8_2+1)),(wrap64 (x8_2+1)),(x464000_2),(x464001_2),(by first|rfl|(simp;done)|(simp [*];done)),(by first|rfl|(simp;done)|(simp [*];done)),(by first|rfl|(simp;done)|(simp [*];done)),H',⟨by have:=HJ2.out;have:=HK2.out;have:=HJ9.out;omega⟩,⟨by (with_reducible repeat (first|refine blk_drewN ?_ _|refine blk_drew ?_|refine blk_alloc ?_ _));exact BK463.out⟩,⟨by repeat (first|(with_reducible first|exact HB.out|apply below_alloc|apply pw_below_drewN|apply below_drew1|refine below_set ?_ GE463.out)|exact HB.out)⟩⟩
           ·
            rw [if_neg c14] at H
            exact absurd H (by simp)
          ·
           rw [if_neg c13] at H
           exact absurd H (by simp)
         ·
          replace c12:=Bool.eq_false_iff.mpr c12
          subst c12
          have H1:(if a1=0 then (none) else (some (Int.tmod x6_2 a1,x7_2)))=some (r1,r2):=by rw [if_neg (show ¬ (false=true) by decide)] at H;exact H
          clear H
          have H:=H1
          clear H1
          by_cases c18:a1=0
          ·
           rw [if_pos c18] at H
           exact absurd H (by simp)
          ·
           rw [if_neg c18] at H
           have c18b0:(a1 == 0)=false:=beq_eq_false_iff_ne.mpr c18
           have c18b1:(a1 != 0)=true:=bne_iff_ne.mpr c18
           simp only [Option.some.injEq,Prod.mk.injEq] at H
           obtain ⟨rfl,rfl⟩:=H
           have hcz19_0:wc.cell? ⟨gb463,0,none⟩=some (.int .i64 x464000_2):=(blk_cell BK463.out 0).trans rfl
           have hcz19_1:wc.cell? ⟨gb463,1,none⟩=some (.int .i64 x464001_2):=(blk_cell BK463.out 1).trans rfl
           have hfz19_0:=blk_frozen BK463.out 0
           have hfz19_1:=blk_frozen BK463.out 1
           go_wp2
           refine bodyPost_ret (results_cell_row rfl _ _ gb463 72 #[.int .i64 (Int.tmod x6_2 a1),.int .i64 x7_2] (0,0) _ rfl (by (with_reducible repeat (first|refine blk_drewN ?_ _|refine blk_drew ?_|refine blk_alloc ?_ _));refine blk_put (cs:=#[.int .i64 (Int.tmod x6_2 a1),.int .i64 x464001_2]) ?_ 1 _ rfl;(with_reducible repeat (first|refine blk_drewN ?_ _|refine blk_drew ?_|refine blk_alloc ?_ _));refine blk_put (cs:=#[.int .i64 x464000_2,.int .i64 x464001_2]) ?_ 0 _ rfl;(with_reducible repeat (first|refine blk_drewN ?_ _|refine blk_drew ?_|refine blk_alloc ?_ _));exact BK463.out) Try.underlying72 rfl (by kernel_rfl)) rfl ?_
           exact ⟨by first|rfl|(simp [errW_none,errW_some] <;> rfl)|(simp [*,errW_none,errW_some] <;> rfl),by repeat (first|(with_reducible first|exact HB.out|apply below_alloc|apply pw_below_drewN|apply below_drew1|refine below_set ?_ GE463.out)|exact HB.out)⟩
end Go.Proofs.Ytelcaepenfjloaa.Print
/-! #### Pr69 -/
namespace Go.Proofs.Ytelcaepenfjloaa.Print
open Go.RowKit Go.Proofs.YtelcaepenfjloaaW.PrintWords Go.Proofs.YtelcaepenfjloaaW.PrintLast Go.Proofs.YtelcaepenfjloaaW.PrintMore
attribute [local go_sem] max2_int min2_int max_two min_two max_three min_three max_four min_four
set_option linter.unusedVariables false
set_option linter.unusedSimpArgs false
/-! ### mosaicref04_Gen_Below: function 69 -/
mutual
def mosaicref04_Gen_Below.j0:Nat→Int→Bool→ByteArray→Int→Option (ByteArray×Int×Int)
 | 0,_,_,_,_=>none
 | k+1,x1,x13,x511000,x511001=>if x13=true then (some (x511000,x511001,0)) else (mosaicref04_Gen_Below.l0 k x1 ([]:List Int) 0 x511000 x511001)
def mosaicref04_Gen_Below.l0:Nat→Int→List Int→Int→ByteArray→Int→Option (ByteArray×Int×Int)
 | 0,_,_,_,_,_=>none
 | k+1,x1,x5,x6,x511000,x511001=>if x6 < 8 then ((mosaicref04_Gen_word.f k x511000 x511001 (wrap64 (x511001+x6))).bind fun t512=>(if x5.length < 35184372088832 then (mosaicref04_Gen_Below.l0 k x1 (x5 ++ [(t512) % 4294967296]) (wrap64 (x6+1)) x511000 x511001) else (none))) else ((mosaicref04_Choose.f k x5 x1).bind fun bt516=>(some (x511000,wrap64 (x511001+bt516.2),bt516.1)))
end
def mosaicref04_Gen_Below.f (k:Nat) (a0_0:ByteArray) (a0_1:Int) (a1:Int):Option (ByteArray×Int×Int):=if a1 < 1 then (mosaicref04_Gen_Below.j0 k a1 true a0_0 a0_1) else (mosaicref04_Gen_Below.j0 k a1 (decide (a1 > 2147483647)) a0_0 a0_1)
theorem mosaicref04_Gen_Below.mono_l:∀ k,(∀ y0 y1 y2 y3,LeO (mosaicref04_Gen_Below.j0 k y0 y1 y2 y3) (mosaicref04_Gen_Below.j0 (k+1) y0 y1 y2 y3))∧(∀ y0 y1 y2 y3 y4,LeO (mosaicref04_Gen_Below.l0 k y0 y1 y2 y3 y4) (mosaicref04_Gen_Below.l0 (k+1) y0 y1 y2 y3 y4))
 | 0=>⟨fun _ _ _ _ r h=>by simp [mosaicref04_Gen_Below.j0] at h,fun _ _ _ _ _ r h=>by simp [mosaicref04_Gen_Below.l0] at h⟩
 | k+1=>by
  obtain ⟨ih0,ih1⟩:=mosaicref04_Gen_Below.mono_l k
  refine ⟨?_,?_⟩
  ·
   intro y0 y1 y2 y3
   unfold mosaicref04_Gen_Below.j0
   repeat' first
   | (with_reducible exact ih0 _ _ _ _)
   | (with_reducible exact ih1 _ _ _ _ _)
   | (with_reducible exact mosaicref04_Choose.mono _ _ _)
   | (with_reducible exact mosaicref04_Gen_word.mono _ _ _ _)
   | (with_reducible exact LeO.refl _)
   | (with_reducible exact LeO.none _)
   | (with_reducible refine LeO.ite ?_ ?_)
   | (with_reducible refine LeO.bind ?_ (fun _=>?_))
   | exact ih0 _ _ _ _
   | exact ih1 _ _ _ _ _
   | exact mosaicref04_Choose.mono _ _ _
   | exact mosaicref04_Gen_word.mono _ _ _ _
   | exact LeO.none _
   | refine LeO.ite ?_ ?_
   | refine LeO.bind ?_ (fun _=>?_)
  ·
   intro y0 y1 y2 y3 y4
   unfold mosaicref04_Gen_Below.l0
   repeat' first
   | (with_reducible exact ih0 _ _ _ _)
   | (with_reducible exact ih1 _ _ _ _ _)
   | (with_reducible exact mosaicref04_Choose.mono _ _ _)
   | (with_reducible exact mosaicref04_Gen_word.mono _ _ _ _)
   | (with_reducible exact LeO.refl _)
   | (with_reducible exact LeO.none _)
   | (with_reducible refine LeO.ite ?_ ?_)
   | (with_reducible refine LeO.bind ?_ (fun _=>?_))
   | exact ih0 _ _ _ _
   | exact ih1 _ _ _ _ _
   | exact mosaicref04_Choose.mono _ _ _
   | exact mosaicref04_Gen_word.mono _ _ _ _
   | exact LeO.none _
   | refine LeO.ite ?_ ?_
   | refine LeO.bind ?_ (fun _=>?_)
theorem mosaicref04_Gen_Below.mono:∀ a0 a1 a2 k,LeO (mosaicref04_Gen_Below.f k a0 a1 a2) (mosaicref04_Gen_Below.f (k+1) a0 a1 a2):=by
 intro a0 a1 a2 k
 obtain ⟨ih0,ih1⟩:=mosaicref04_Gen_Below.mono_l k
 unfold mosaicref04_Gen_Below.f
 repeat' first
   | (with_reducible exact ih0 _ _ _ _)
   | (with_reducible exact ih1 _ _ _ _ _)
   | (with_reducible exact mosaicref04_Choose.mono _ _ _)
   | (with_reducible exact mosaicref04_Gen_word.mono _ _ _ _)
   | (with_reducible exact LeO.refl _)
   | (with_reducible exact LeO.none _)
   | (with_reducible refine LeO.ite ?_ ?_)
   | (with_reducible refine LeO.bind ?_ (fun _=>?_))
   | exact ih0 _ _ _ _
   | exact ih1 _ _ _ _ _
   | exact mosaicref04_Choose.mono _ _ _
   | exact mosaicref04_Gen_word.mono _ _ _ _
   | exact LeO.none _
   | refine LeO.ite ?_ ?_
   | refine LeO.bind ?_ (fun _=>?_)
set_option maxHeartbeats 8000000 in
set_option maxRecDepth 100000 in
theorem mosaicref04_Gen_Below.calls (k:Nat) (a0_0:ByteArray) (a0_1:Int) (a1:Int) (r1:ByteArray) (r2:Int) (r3:Int) (w:World) (h:mosaicref04_Gen_Below.f k a0_0 a0_1 a1=some (r1,r2,r3)) :
  Calls Try.prog 69 #[.agg #[.string a0_0,.int .i64 a0_1],.int .i64 a1] w fun e w'=>e=.returned (.agg #[.string r1,.int .i64 r2,.int .i64 r3])∧Below w.heap.size w w':=by
 have hu83:=Try.underlying83
 have hu85:=Try.underlying85
 have hu72:=Try.underlying72
 have HB:=Aside0.mk (Below.refl w.heap.size w)
 have H:(if a1 < 1 then (mosaicref04_Gen_Below.j0 k a1 true a0_0 a0_1) else (mosaicref04_Gen_Below.j0 k a1 (decide (a1 > 2147483647)) a0_0 a0_1))=some (r1,r2,r3):=h
 clear h
 have HC3:=Aside0.mk H
 clear H
 go_enter Try.func69,Try.ntmps69
 go_upto_region 1 with (first|((with_reducible refine gate_dst (N:=2) rfl ?_);refine box_event ?hg (N:=2) ?hd (cs:=#[.string a0_0,.int .i64 a0_1]) (t:=83) ?hr ?_;(case hd=>rfl);(case hg=>rfl);(case hr=>first|(go_simp;done)|(go_simp;rfl));intro gb510 hg w4 hbox hb;have n0_:=Aside0.mk (below_step (by repeat (first|(with_reducible first|exact HB.out|apply below_alloc|apply pw_below_drewN|apply below_drew1)|exact HB.out)) hb);have n1_:=Aside0.mk (hbox);have n2_:=Aside0.mk ((by rw [hg];exact (below_size (by repeat (first|(with_reducible first|exact HB.out|apply below_alloc|apply pw_below_drewN|apply below_drew1)|exact HB.out))):w.heap.size≤gb510));have n3_:=Aside0.mk ((by rw [hg];exact (below_size (by repeat (first|(with_reducible first|exact HB.out|apply below_alloc|apply pw_below_drewN|apply below_drew1)|exact HB.out))):w.heap.size≤gb510));clear HB;have HB:=n0_;have BK510:=n1_;have GW510:=n2_;have GE510:=n3_;clear n0_ n1_ n2_ n3_;clear hb hbox hg)|((with_reducible refine gate_dst (N:=4) rfl ?_);refine box_event ?hg (N:=4) ?hd (cs:=#[.string (⟨#[]⟩:ByteArray),.int .i64 0,.int .i64 0]) (t:=85) ?hr ?_;(case hd=>rfl);(case hg=>rfl);(case hr=>first|(go_simp;done)|(go_simp;rfl));intro gb511 hg w5 hbox hb;have n0_:=Aside0.mk (blk_below (g:=gb510) (o:=.cells #[.string a0_0,.int .i64 a0_1] 83 (0,0)) (by (with_reducible repeat (first|refine blk_drewN ?_ _|refine blk_drew ?_|refine blk_alloc ?_ _));exact BK510.out) hb);have n1_:=Aside0.mk (below_step (by repeat (first|(with_reducible first|exact HB.out|apply below_alloc|apply pw_below_drewN|apply below_drew1|refine below_set ?_ GE510.out)|exact HB.out)) hb);have n2_:=Aside0.mk (hbox);have n3_:=Aside0.mk ((by rw [hg];exact (below_size (by repeat (first|(with_reducible first|exact HB.out|apply below_alloc|apply pw_below_drewN|apply below_drew1|refine below_set ?_ GE510.out)|exact HB.out))):w.heap.size≤gb511));have n4_:=Aside0.mk ((by rw [hg];exact (below_size (by repeat (first|(with_reducible first|exact HB.out|apply below_alloc|apply pw_below_drewN|apply below_drew1|refine below_set ?_ GE510.out)|exact HB.out))):w.heap.size≤gb511));have n5_:=Aside0.mk ((by rw [hg];exact Nat.ne_of_lt (blk_lt (g:=gb510) (o:=.cells #[.string a0_0,.int .i64 a0_1] 83 (0,0)) (by (with_reducible repeat (first|refine blk_drewN ?_ _|refine blk_drew ?_|refine blk_alloc ?_ _));exact BK510.out)):gb510≠gb511));have n6_:=Aside0.mk ((by rw [hg];exact Nat.ne_of_gt (blk_lt (g:=gb510) (o:=.cells #[.string a0_0,.int .i64 a0_1] 83 (0,0)) (by (with_reducible repeat (first|refine blk_drewN ?_ _|refine blk_drew ?_|refine blk_alloc ?_ _));exact BK510.out)):gb511≠gb510));clear BK510;clear HB;have BK510:=n0_;have HB:=n1_;have BK511:=n2_;have GW511:=n3_;have GE511:=n4_;have NB510_511:=n5_;have NB511_510:=n6_;clear n0_ n1_ n2_ n3_ n4_ n5_ n6_;clear hb hbox hg))
 (try simp only [Act.put,List.setIfInBounds_toArray,List.set_cons_zero,List.set_cons_succ])
 go_cut [13] (fun v13 wc=>∃ (kq:Nat) (x13_2:Bool),v13=.bool x13_2∧Aside0 (mosaicref04_Gen_Below.j0 kq a1 x13_2 a0_0 a0_1=some (r1,r2,r3))∧Aside0 (kq≤k)∧Aside0 (wc.heap[gb510]?=some (.cells #[.string a0_0,.int .i64 a0_1] 83 (0,0)))∧Aside0 (wc.heap[gb511]?=some (.cells #[.string (⟨#[]⟩:ByteArray),.int .i64 0,.int .i64 0] 85 (0,0)))∧Aside0 (Below w.heap.size w wc))
 case first =>
  have H:=HC3.out
  clear HC3
  by_cases c6:a1 < 1
  ·
   rw [if_pos c6] at H
   have c6b0:decide (a1 < 1)=true:=decide_eq_true c6
   clear c6
   (first|rw [c6b0]|(simp only [i64_w,i32_w];rw [c6b0])|skip)
   have H':=Aside0.mk H
   clear H
   go_wp2
   go_meet
   case rel=>exact ⟨_,(true),(by first|rfl|(simp;done)|(simp [*];done)),H',⟨by first|omega|exact Nat.le_refl _⟩,⟨by (with_reducible repeat (first|refine blk_drewN ?_ _|refine blk_drew ?_|refine blk_alloc ?_ _));exact BK510.out⟩,⟨by (with_reducible repeat (first|refine blk_drewN ?_ _|refine blk_drew ?_|refine blk_alloc ?_ _));exact BK511.out⟩,⟨by repeat (first|(with_reducible first|exact HB.out|apply below_alloc|apply pw_below_drewN|apply below_drew1|refine below_set ?_ GE510.out|refine below_set ?_ GE511.out)|exact HB.out)⟩⟩
  ·
   rw [if_neg c6] at H
   have c6b0:decide (a1 < 1)=false:=decide_eq_false c6
   clear c6
   (first|rw [c6b0]|(simp only [i64_w,i32_w];rw [c6b0])|skip)
   have H':=Aside0.mk H
   clear H
   go_wp2
   go_meet
   case rel=>exact ⟨_,(decide (a1 > 2147483647)),(by first|rfl|(simp;done)|(simp [*];done)),H',⟨by first|omega|exact Nat.le_refl _⟩,⟨by (with_reducible repeat (first|refine blk_drewN ?_ _|refine blk_drew ?_|refine blk_alloc ?_ _));exact BK510.out⟩,⟨by (with_reducible repeat (first|refine blk_drewN ?_ _|refine blk_drew ?_|refine blk_alloc ?_ _));exact BK511.out⟩,⟨by repeat (first|(with_reducible first|exact HB.out|apply below_alloc|apply pw_below_drewN|apply below_drew1|refine below_set ?_ GE510.out|refine below_set ?_ GE511.out)|exact HB.out)⟩⟩
 case rest =>
  clear HC3
  try clear p2
  try clear c6
  try clear c6b0
  obtain ⟨kq,x13_2,rfl,HA,HJ2,BK510,BK511,HB⟩:=hcut
  cases kq with
  | zero=>exact absurd HA.out (by simp [mosaicref04_Gen_Below.j0])
  | succ kj2 =>
   have H:=HA.out
   clear HA
   simp only [mosaicref04_Gen_Below.j0] at H
   by_cases c7:x13_2=true
   ·
    subst c7
    have H1:(some (a0_0,a0_1,0))=some (r1,r2,r3):=by rw [if_pos rfl] at H;exact H
    clear H
    have H:=H1
    clear H1
    simp only [Option.some.injEq,Prod.mk.injEq] at H
    obtain ⟨rfl,rfl,rfl⟩:=H
    have hnb8:=NB510_511.out
    have hnc8:=NB511_510.out
    have hcz9_0:wc.cell? ⟨gb510,0,none⟩=some (.string a0_0):=(blk_cell BK510.out 0).trans rfl
    have hcz9_1:wc.cell? ⟨gb510,1,none⟩=some (.int .i64 a0_1):=(blk_cell BK510.out 1).trans rfl
    have hfz9_0:=blk_frozen BK510.out 0
    have hfz9_1:=blk_frozen BK510.out 1
    have hcz10_0:wc.cell? ⟨gb511,0,none⟩=some (.string (⟨#[]⟩:ByteArray)):=(blk_cell BK511.out 0).trans rfl
    have hcz10_1:wc.cell? ⟨gb511,1,none⟩=some (.int .i64 0):=(blk_cell BK511.out 1).trans rfl
    have hcz10_2:wc.cell? ⟨gb511,2,none⟩=some (.int .i64 0):=(blk_cell BK511.out 2).trans rfl
    have hfz10_0:=blk_frozen BK511.out 0
    have hfz10_1:=blk_frozen BK511.out 1
    have hfz10_2:=blk_frozen BK511.out 2
    go_wp2
    refine bodyPost_ret (results_cell_row rfl _ _ gb511 85 #[.string a0_0,.int .i64 a0_1,.int .i64 0] (0,0) _ rfl (by (with_reducible repeat (first|refine blk_drewN ?_ _|refine blk_drew ?_|refine blk_alloc ?_ _));refine blk_put (cs:=#[.string a0_0,.int .i64 a0_1,.int .i64 0]) ?_ 2 _ rfl;(with_reducible repeat (first|refine blk_drewN ?_ _|refine blk_drew ?_|refine blk_alloc ?_ _));refine blk_put (cs:=#[.string a0_0,.int .i64 0,.int .i64 0]) ?_ 1 _ rfl;(with_reducible repeat (first|refine blk_drewN ?_ _|refine blk_drew ?_|refine blk_alloc ?_ _));refine blk_put (cs:=#[.string (⟨#[]⟩:ByteArray),.int .i64 0,.int .i64 0]) ?_ 0 _ rfl;(with_reducible repeat (first|refine blk_drewN ?_ _|refine blk_drew ?_|refine blk_alloc ?_ _));exact BK511.out) Try.underlying85 rfl (by kernel_rfl)) rfl ?_
    exact ⟨by first|rfl|(simp [errW_none,errW_some] <;> rfl)|(simp [*,errW_none,errW_some] <;> rfl),by repeat (first|(with_reducible first|exact HB.out|apply below_alloc|apply pw_below_drewN|apply below_drew1|refine below_set ?_ GE510.out|refine below_set ?_ GE511.out)|exact HB.out)⟩
   ·
    replace c7:=Bool.eq_false_iff.mpr c7
    subst c7
    have H1:(mosaicref04_Gen_Below.l0 kj2 a1 ([]:List Int) 0 a0_0 a0_1)=some (r1,r2,r3):=by rw [if_neg (show ¬ (false=true) by decide)] at H;exact H
    clear H
    have H:=H1
    clear H1
    have H':=Aside0.mk H
    clear H
    go_wp2
    go_loopg [5,6] kj2 (fun kq v5 v6 w'=>∃ (x5_2:List Int) (x6_2:Int),v6=.int .i64 x6_2∧Aside0 (mosaicref04_Gen_Below.l0 kq a1 x5_2 x6_2 a0_0 a0_1=some (r1,r2,r3))∧Aside0 (kq≤kj2)∧Aside0 (Kd.R (Kd.int .u32) 27 w' w.heap.size (fun _=>True) v5 x5_2)∧Aside0 (w'.heap[gb510]?=some (.cells #[.string a0_0,.int .i64 a0_1] 83 (0,0)))∧Aside0 (w'.heap[gb511]?=some (.cells #[.string (⟨#[]⟩:ByteArray),.int .i64 0,.int .i64 0] 85 (0,0)))∧Aside0 (Below w.heap.size w w'))
    case atStart=>exact ⟨(([]:List Int)),(0),(by first|rfl|(simp;done)|(simp [*];done)),H',⟨Nat.le_refl _⟩,⟨by first|exact Kd.R_nil _ _ _ _ _|exact Kd.N_nil _ _ _ _ _|exact Kd.V_nil _ _ _ _ _|exact Kd.Q_nil _ _ _ _ _|exact Kd.S_nil _ _ _ _ _⟩,⟨by (with_reducible repeat (first|refine blk_drewN ?_ _|refine blk_drew ?_|refine blk_alloc ?_ _));exact BK510.out⟩,⟨by (with_reducible repeat (first|refine blk_drewN ?_ _|refine blk_drew ?_|refine blk_alloc ?_ _));exact BK511.out⟩,⟨by repeat (first|(with_reducible first|exact HB.out|apply below_alloc|apply pw_below_drewN|apply below_drew1|refine below_set ?_ GE510.out|refine below_set ?_ GE511.out)|exact HB.out)⟩⟩
    case round =>
     clear H'
     try clear p2
     try clear c6
     try clear c6b0
     try clear c7
     try clear c8
     try clear hcz10_0
     try clear hcz10_1
     try clear hcz10_2
     try clear hcz9_0
     try clear hcz9_1
     try clear hfz10_0
     try clear hfz10_1
     try clear hfz10_2
     try clear hfz9_0
     try clear hfz9_1
     try clear p2
     obtain ⟨x5_2,x6_2,rfl,HA,HK2,HO_5,BK510,BK511,HB⟩:=hrel
     cases gk with
     | zero=>exact absurd HA.out (by simp [mosaicref04_Gen_Below.l0])
     | succ k2 =>
      have H:=HA.out
      clear HA
      simp only [mosaicref04_Gen_Below.l0] at H
      by_cases c11:x6_2 < 8
      ·
       rw [if_pos c11] at H
       have c11b0:decide (x6_2 < 8)=true:=decide_eq_true c11
       clear c11
       replace H:=Option.bind_eq_some_iff.mp H
       obtain ⟨t512,A120,H⟩:=H
       replace H:(if x5_2.length < 35184372088832 then (mosaicref04_Gen_Below.l0 k2 a1 (x5_2 ++ [(t512) % 4294967296]) (wrap64 (x6_2+1)) a0_0 a0_1) else (none))=some (r1,r2,r3):=H
       have A12:=Aside0.mk A120
       clear A120
       by_cases c13:x5_2.length < 35184372088832
       ·
        rw [if_pos c13] at H
        have LMc13:=Aside0.mk c13
        clear c13
        obtain ⟨y513,hy513⟩:∃ y_:List Int,y_=(x5_2 ++ [(t512) % 4294967296]):=⟨_,rfl⟩
        replace H:(mosaicref04_Gen_Below.l0 k2 a1 y513 (wrap64 (x6_2+1)) a0_0 a0_1)=some (r1,r2,r3):=by first|(rw [hy513];with_reducible exact H)|(have H2_:=(Option.bind_some _ _).symm.trans H;rw [hy513];with_reducible exact H2_)|(have H2_:=(Option.bind_some _ _).symm.trans H;with_reducible exact H2_)|with_reducible exact H|(rw [hy513];exact H)|exact H
        have Ny513:=Aside0.mk hy513
        clear hy513
        have H':=Aside0.mk H
        clear H
        have hnb14:=NB510_511.out
        have hnc14:=NB511_510.out
        have hcz15_0:wr.cell? ⟨gb510,0,none⟩=some (.string a0_0):=(blk_cell BK510.out 0).trans rfl
        have hcz15_1:wr.cell? ⟨gb510,1,none⟩=some (.int .i64 a0_1):=(blk_cell BK510.out 1).trans rfl
        have hfz15_0:=blk_frozen BK510.out 0
        have hfz15_1:=blk_frozen BK510.out 1
        go_wp2_with (first|((with_reducible refine gate_callee (f:=105) rfl ?_);refine goesL_ (some 26) rfl rfl Try.func105 (by kernel_rfl) rfl #[.agg #[.string a0_0,.int .i64 a0_1],.int .i64 (wrap64 (a0_1+x6_2))] rfl (by (try simp only [List.map_toArray,List.map_cons,List.map_nil]);first|done|rfl|(simp only [List.length_drop,List.length_take];rfl)) ?_;(with_reducible refine (mosaicref04_Gen_word.calls k2 a0_0 a0_1 (wrap64 (a0_1+x6_2)) t512 _ A12.out).mono ?_);rintro e w16 ⟨rfl,hb⟩;refine ⟨_,rfl,?_⟩;have n0_:=Aside0.mk (Kd.R_below (by (with_reducible repeat (first|apply Kd.R_alloc|apply Kd.R_drewN|apply Kd.R_drew));exact HO_5.out) hb);have n1_:=Aside0.mk (blk_below (g:=gb510) (o:=.cells #[.string a0_0,.int .i64 a0_1] 83 (0,0)) (by (with_reducible repeat (first|refine blk_drewN ?_ _|refine blk_drew ?_|refine blk_alloc ?_ _));exact BK510.out) hb);have n2_:=Aside0.mk (blk_below (g:=gb511) (o:=.cells #[.string (⟨#[]⟩:ByteArray),.int .i64 0,.int .i64 0] 85 (0,0)) (by (with_reducible repeat (first|refine blk_drewN ?_ _|refine blk_drew ?_|refine blk_alloc ?_ _));exact BK511.out) hb);have n3_:=Aside0.mk (below_step (by repeat (first|(with_reducible first|exact HB.out|apply below_alloc|apply pw_below_drewN|apply below_drew1|refine below_set ?_ GE510.out|refine below_set ?_ GE511.out)|exact HB.out)) hb);clear HO_5;clear BK510;clear BK511;clear HB;have HO_5:=n0_;have BK510:=n1_;have BK511:=n2_;have HB:=n3_;clear n0_ n1_ n2_ n3_;(try clear hb);(try clear hb2);(try clear hk);(try clear hi))|((with_reducible refine gate_builtin (b:=.append) (xs:=#[.tmp 20,.tmp 28]) rfl ?_);at_builtin;refine Kd.R_append (Kd.int .u32) (w0:=w) w.heap.size rfl (.tmp 20) (.tmp 28) 33 27 (.int .u32 0) 4 rfl Try.underlying33 info27 rfl (by decide) (by omega) u5 x5_2 ((t512) % 4294967296) [.int .u32 ((t512) % 4294967296)] (fun _=>True) (fun _=>False) rfl rfl ?aP (fun _ hk=>hk.elim) ?aF ?aO ?aB ?aS ?aL ?_;(case aP=>exact rfl);(case aB=>exact (by repeat (first|(with_reducible first|exact HB.out|apply below_alloc|apply pw_below_drewN|apply below_drew1|refine below_set ?_ GE510.out|refine below_set ?_ GE511.out)|exact HB.out)));(case aF=>exact (fun _ _=>trivial));(case aO=>exact (by (with_reducible repeat (first|apply Kd.R_alloc|apply Kd.R_drewN|apply Kd.R_drew));exact HO_5.out));(case aS=>exact (below_size (by repeat (first|(with_reducible first|exact HB.out|apply below_alloc|apply pw_below_drewN|apply below_drew1|refine below_set ?_ GE510.out|refine below_set ?_ GE511.out)|exact HB.out))));(case aL=>have:=LMc13.out;omega);intro v514 w17 ho hb hg hat;rw [← Ny513.out] at ho;have n0_:=Aside0.mk (blk_grown (g:=gb510) (o:=.cells #[.string a0_0,.int .i64 a0_1] 83 (0,0)) (by (with_reducible repeat (first|refine blk_drewN ?_ _|refine blk_drew ?_|refine blk_alloc ?_ _));exact BK510.out) hg (Kd.R_ne HO_5.out BK510.out (by decide)));have n1_:=Aside0.mk (blk_grown (g:=gb511) (o:=.cells #[.string (⟨#[]⟩:ByteArray),.int .i64 0,.int .i64 0] 85 (0,0)) (by (with_reducible repeat (first|refine blk_drewN ?_ _|refine blk_drew ?_|refine blk_alloc ?_ _));exact BK511.out) hg (Kd.R_ne HO_5.out BK511.out (by decide)));have n2_:=Aside0.mk (hb);have n3_:=Aside0.mk (ho);clear BK510;clear BK511;clear HB;clear HO_5;have BK510:=n0_;have BK511:=n1_;have HB:=n2_;have HO515:=n3_;clear n0_ n1_ n2_ n3_;clear ho hb hg hat))
        go_roundg k2
        case measure=>have:=HJ2.out;have:=HK2.out;omega
        case rel=>exact ⟨(y513),(wrap64 (x6_2+1)),(by first|rfl|(simp;done)|(simp [*];done)),H',⟨by have:=HJ2.out;have:=HK2.out;omega⟩,⟨by (with_reducible repeat (first|apply Kd.R_alloc|apply Kd.R_drewN|apply Kd.R_drew));exact HO515.out⟩,⟨by (with_reducible repeat (first|refine blk_drewN ?_ _|refine blk_drew ?_|refine blk_alloc ?_ _));exact BK510.out⟩,⟨by (with_reducible repeat (first|refine blk_drewN ?_ _|refine blk_drew ?_|refine blk_alloc ?_ _));exact BK511.out⟩,⟨by repeat (first|(with_reducible first|exact HB.out|apply below_alloc|apply pw_below_drewN|apply below_drew1|refine below_set ?_ GE510.out|refine below_set ?_ GE511.out)|exact HB.out)⟩⟩
       ·
        rw [if_neg c13] at H
        exact absurd H (by simp)
      ·
       rw [if_neg c11] at H
       have c11b0:decide (x6_2 < 8)=false:=decide_eq_false c11
       clear c11
       replace H:=Option.bind_eq_some_iff.mp H
       obtain ⟨⟨t516,t517⟩,A180,H⟩:=H
       replace H:(some (a0_0,wrap64 (a0_1+t517),t516))=some (r1,r2,r3):=H
       have A18:=Aside0.mk A180
       clear A180
       simp only [Option.some.injEq,Prod.mk.injEq] at H
       obtain ⟨rfl,rfl,rfl⟩:=H
       obtain ⟨Ao19,co19,eo19⟩:=Kd.R_slice HO_5.out
       subst eo19
       go_wp2_with (first|((with_reducible refine gate_callee (f:=61) rfl ?_);refine goesL_ (some 32) rfl rfl Try.func61 (by kernel_rfl) rfl #[.slice Ao19 x5_2.length co19,.int .i64 a1] rfl (by (try simp only [List.map_toArray,List.map_cons,List.map_nil]);first|done|rfl|(simp only [List.length_drop,List.length_take];rfl)) ?_;(with_reducible refine (mosaicref04_Choose.calls k2 _ _ x5_2 a1 t516 t517 _ ?side1 ?side2 A18.out).mono ?_);(case side1=>repeat (first|exact (Kd.R_reads' HO_5.out).2.2|(with_reducible refine Kd.C_alloc ?_ _)|(with_reducible refine Kd.C_drewN ?_ _)|(with_reducible refine Kd.C_drew ?_)));(case side2=>exact (Kd.R_reads' HO_5.out).2.1);rintro e w20 ⟨rfl,hb⟩;refine ⟨_,rfl,?_⟩;have n0_:=Aside0.mk (Kd.R_below (by (with_reducible repeat (first|apply Kd.R_alloc|apply Kd.R_drewN|apply Kd.R_drew));exact HO_5.out) hb);have n1_:=Aside0.mk (blk_below (g:=gb510) (o:=.cells #[.string a0_0,.int .i64 a0_1] 83 (0,0)) (by (with_reducible repeat (first|refine blk_drewN ?_ _|refine blk_drew ?_|refine blk_alloc ?_ _));exact BK510.out) hb);have n2_:=Aside0.mk (blk_below (g:=gb511) (o:=.cells #[.string (⟨#[]⟩:ByteArray),.int .i64 0,.int .i64 0] 85 (0,0)) (by (with_reducible repeat (first|refine blk_drewN ?_ _|refine blk_drew ?_|refine blk_alloc ?_ _));exact BK511.out) hb);have n3_:=Aside0.mk (below_step (by repeat (first|(with_reducible first|exact HB.out|apply below_alloc|apply pw_below_drewN|apply below_drew1|refine below_set ?_ GE510.out|refine below_set ?_ GE511.out)|exact HB.out)) hb);clear HO_5;clear BK510;clear BK511;clear HB;have HO_5:=n0_;have BK510:=n1_;have BK511:=n2_;have HB:=n3_;clear n0_ n1_ n2_ n3_;(try clear hb);(try clear hb2);(try clear hk);(try clear hi))|((with_reducible refine gate_dst (N:=7) rfl ?_);refine box_event ?hg (N:=7) ?hd (cs:=#[.int .i64 0,.int .i64 0]) (t:=72) ?hr ?_;(case hd=>rfl);(case hg=>rfl);(case hr=>first|(go_simp;done)|(go_simp;rfl));intro gb518 hg w21 hbox hb;have n0_:=Aside0.mk (Kd.R_below (by (with_reducible repeat (first|apply Kd.R_alloc|apply Kd.R_drewN|apply Kd.R_drew));exact HO_5.out) hb);have n1_:=Aside0.mk (blk_below (g:=gb510) (o:=.cells #[.string a0_0,.int .i64 a0_1] 83 (0,0)) (by (with_reducible repeat (first|refine blk_drewN ?_ _|refine blk_drew ?_|refine blk_alloc ?_ _));exact BK510.out) hb);have n2_:=Aside0.mk (blk_below (g:=gb511) (o:=.cells #[.string (⟨#[]⟩:ByteArray),.int .i64 0,.int .i64 0] 85 (0,0)) (by (with_reducible repeat (first|refine blk_drewN ?_ _|refine blk_drew ?_|refine blk_alloc ?_ _));exact BK511.out) hb);have n3_:=Aside0.mk (below_step (by repeat (first|(with_reducible first|exact HB.out|apply below_alloc|apply pw_below_drewN|apply below_drew1|refine below_set ?_ GE510.out|refine below_set ?_ GE511.out)|exact HB.out)) hb);have n4_:=Aside0.mk (hbox);have n5_:=Aside0.mk ((by rw [hg];exact (below_size (by repeat (first|(with_reducible first|exact HB.out|apply below_alloc|apply pw_below_drewN|apply below_drew1|refine below_set ?_ GE510.out|refine below_set ?_ GE511.out)|exact HB.out))):w.heap.size≤gb518));have n6_:=Aside0.mk ((by rw [hg];exact (below_size (by repeat (first|(with_reducible first|exact HB.out|apply below_alloc|apply pw_below_drewN|apply below_drew1|refine below_set ?_ GE510.out|refine below_set ?_ GE511.out)|exact HB.out))):w.heap.size≤gb518));have n7_:=Aside0.mk ((by rw [hg];exact Nat.ne_of_lt (blk_lt (g:=gb510) (o:=.cells #[.string a0_0,.int .i64 a0_1] 83 (0,0)) (by (with_reducible repeat (first|refine blk_drewN ?_ _|refine blk_drew ?_|refine blk_alloc ?_ _));exact BK510.out)):gb510≠gb518));have n8_:=Aside0.mk ((by rw [hg];exact Nat.ne_of_gt (blk_lt (g:=gb510) (o:=.cells #[.string a0_0,.int .i64 a0_1] 83 (0,0)) (by (with_reducible repeat (first|refine blk_drewN ?_ _|refine blk_drew ?_|refine blk_alloc ?_ _));exact BK510.out)):gb518≠gb510));have n9_:=Aside0.mk ((by rw [hg];exact Nat.ne_of_lt (blk_lt (g:=gb511) (o:=.cells #[.string (⟨#[]⟩:ByteArray),.int .i64 0,.int .i64 0] 85 (0,0)) (by (with_reducible repeat (first|refine blk_drewN ?_ _|refine blk_drew ?_|refine blk_alloc ?_ _));exact BK511.out)):gb511≠gb518));have n10_:=Aside0.mk ((by rw [hg];exact Nat.ne_of_gt (blk_lt (g:=gb511) (o:=.cells #[.string (⟨#[]⟩:ByteArray),.int .i64 0,.int .i64 0] 85 (0,0)) (by (with_reducible repeat (first|refine blk_drewN ?_ _|refine blk_drew ?_|refine blk_alloc ?_ _));exact BK511.out)):gb518≠gb511));clear HO_5;clear BK510;clear BK511;clear HB;have HO_5:=n0_;have BK510:=n1_;have BK511:=n2_;have HB:=n3_;have BK518:=n4_;have GW518:=n5_;have GE518:=n6_;have NB510_518:=n7_;have NB518_510:=n8_;have NB511_518:=n9_;have NB518_511:=n10_;clear n0_ n1_ n2_ n3_ n4_ n5_ n6_ n7_ n8_ n9_ n10_;clear hb hbox hg;have hnb22:=NB518_510.out;have hnc22:=NB510_518.out;have hnb23:=NB518_511.out;have hnc23:=NB511_518.out;have hcz24_0:w21.cell? ⟨gb518,0,none⟩=some (.int .i64 0):=(blk_cell BK518.out 0).trans rfl;have hcz24_1:w21.cell? ⟨gb518,1,none⟩=some (.int .i64 0):=(blk_cell BK518.out 1).trans rfl;have hfz24_0:=blk_frozen BK518.out 0;have hfz24_1:=blk_frozen BK518.out 1;have hnb25:=NB510_511.out;have hnc25:=NB511_510.out;have hcz26_0:w21.cell? ⟨gb510,0,none⟩=some (.string a0_0):=(blk_cell BK510.out 0).trans rfl;have hcz26_1:w21.cell? ⟨gb510,1,none⟩=some (.int .i64 a0_1):=(blk_cell BK510.out 1).trans rfl;have hfz26_0:=blk_frozen BK510.out 0;have hfz26_1:=blk_frozen BK510.out 1;have hcz27_0:w21.cell? ⟨gb511,0,none⟩=some (.string (⟨#[]⟩:ByteArray)):=(blk_cell BK511.out 0).trans rfl;have hcz27_1:w21.cell? ⟨gb511,1,none⟩=some (.int .i64 0):=(blk_cell BK511.out 1).trans rfl;have hcz27_2:w21.cell? ⟨gb511,2,none⟩=some (.int .i64 0):=(blk_cell BK511.out 2).trans rfl;have hfz27_0:=blk_frozen BK511.out 0;have hfz27_1:=blk_frozen BK511.out 1;have hfz27_2:=blk_frozen BK511.out 2))
       refine bodyPost_ret (results_cell_row rfl _ _ gb511 85 #[.string a0_0,.int .i64 (wrap64 (a0_1+t517)),.int .i64 t516] (0,0) _ rfl (by (with_reducible repeat (first|refine blk_drewN ?_ _|refine blk_drew ?_|refine blk_alloc ?_ _));refine blk_put (cs:=#[.string a0_0,.int .i64 (wrap64 (a0_1+t517)),.int .i64 0]) ?_ 2 _ rfl;(with_reducible repeat (first|refine blk_drewN ?_ _|refine blk_drew ?_|refine blk_alloc ?_ _));refine blk_put (cs:=#[.string a0_0,.int .i64 0,.int .i64 0]) ?_ 1 _ rfl;(with_reducible repeat (first|refine blk_drewN ?_ _|refine blk_drew ?_|refine blk_alloc ?_ _));refine blk_put (cs:=#[.string (⟨#[]⟩:ByteArray),.int .i64 0,.int .i64 0]) ?_ 0 _ rfl;(with_reducible repeat (first|refine blk_drewN ?_ _|refine blk_drew ?_|refine blk_alloc ?_ _));refine blk_far ?_ NB511_518.out _;(with_reducible repeat (first|refine blk_drewN ?_ _|refine blk_drew ?_|refine blk_alloc ?_ _));refine blk_far ?_ NB511_518.out _;(with_reducible repeat (first|refine blk_drewN ?_ _|refine blk_drew ?_|refine blk_alloc ?_ _));exact BK511.out) Try.underlying85 rfl (by kernel_rfl)) rfl ?_
       exact ⟨by first|rfl|(simp [errW_none,errW_some] <;> rfl)|(simp [*,errW_none,errW_some] <;> rfl),by repeat (first|(with_reducible first|exact HB.out|apply below_alloc|apply pw_below_drewN|apply below_drew1|refine below_set ?_ GE510.out|refine below_set ?_ GE511.out|refine below_set ?_ GE518.out)|exact HB.out)⟩
end Go.Proofs.Ytelcaepenfjloaa.Print
/-! #### PurePrng2 -/
/- prng in plain words: what is chosen, drawn below a number, picked. -/
namespace Go.Proofs.Ytelcaepenfjloaa.Pure
open Go.RowKit Go.Proofs.Ytelcaepenfjloaa.Print Go.Proofs.YtelcaepenfjloaaW.PrintWords Go.Proofs.YtelcaepenfjloaaW.PrintLast Go.Proofs.YtelcaepenfjloaaW.PrintMore
set_option linter.unusedVariables false
set_option linter.unusedSimpArgs false
def bndN (n:Int):Int:=4294967296 - 4294967296 % n
theorem bndN_pos (n:Int) (h:1≤n) (h2:n≤2147483647):0 < bndN n∧bndN n≤4294967296:=by
 have a:=Int.emod_nonneg 4294967296 (show n≠0 by omega)
 have b:=Int.emod_lt_of_pos 4294967296 (show 0 < n by omega)
 unfold bndN
 omega
theorem bound_f (n:Int) (h:1≤n) (h2:n≤2147483647):prng_bound.f n=some (bndN n):=by
 have:=bndN_pos n h h2
 unfold prng_bound.f
 rw [if_neg (by omega)]
 show some (wrap64 (bndN n))=_
 rw [wrap_of (by omega) (by omega)]
theorem may_f (n:Int):prng_may.f n=some (decide (1≤n∧n≤2147483647)):=by
 unfold prng_may.f
 by_cases h:1≤n
 ·
  rw [if_pos h]
  simp [h]
 ·
  rw [if_neg (by omega)]
  simp [h]
def chG (n m:Int):List Int→Int→Int→Int×Int
 | [],last,used=>(Int.tmod last n,used)
 | w :: t,_,used=>if w < m then (Int.tmod w n,used+1) else chG n m t w (used+1)
theorem chG_range (n m:Int) (hn:1≤n):∀ (l:List Int) (last used:Int),(∀ x∈l,0≤x)→0≤last→0≤(chG n m l last used).1∧(chG n m l last used).1 < n∧used≤(chG n m l last used).2∧(chG n m l last used).2≤used+l.length
 | [],last,used,h,h0=>⟨Int.tmod_nonneg n h0,Int.tmod_lt_of_pos last (by omega),by simp [chG],by simp [chG]⟩
 | w :: t,last,used,h,h0=>by
  have hw:=h w (by simp)
  unfold chG
  split
  ·
   exact ⟨Int.tmod_nonneg n hw,Int.tmod_lt_of_pos w (by omega),by simp;omega,by simp;omega⟩
  ·
   have:=chG_range n m hn t w (used+1) (fun x hx=>h x (by simp [hx])) hw
   rw [List.length_cons]
   refine ⟨this.1,this.2.1,by omega,by omega⟩
theorem chG_pos (n m:Int) (l:List Int) (last used:Int) (hn:1≤n) (h:∀ x∈l,0≤x) (hl:l≠[]) (h0:0≤last):used+1≤(chG n m l last used).2:=by
 cases l with
 | nil=>exact absurd rfl hl
 | cons w t =>
  unfold chG
  split
  ·
   simp
  ·
   exact (chG_range n m hn t w (used+1) (fun x hx=>h x (by simp [hx])) (h w (by simp))).2.2.1
def chooseP (l:List Int) (n:Int):Int×Int:=if 1≤n∧n≤2147483647∧l≠[] then chG n (bndN n) (l.take 8) 0 0 else (0,0)
def U32 (l:List Int):Prop:=∀ x∈l,0≤x∧x < 4294967296
theorem choose_l0 (n:Int) (hn:1≤n) (hn2:n≤2147483647) (y:List Int) (hy:U32 y) (h8:y.length≤8) (h1:0 < y.length):∀ (d i:Nat) (last:Int),i+d=y.length→(0 < i→last=y.getD (i - 1) 0) →
  Ev (fun k=>prng_Choose.l0 k y n y (y.length:Int) (i:Int)) (chG n (bndN n) (y.drop i) last i)
 | 0,i,last,h,hlast=>by
  have hi:i=y.length:=by omega
  have hl:=hlast (by omega)
  refine Ev.succ ?_
  simp only [prng_Choose.l0]
  rw [show wrap64 ((y.length:Int) - 1)=((y.length - 1:Nat):Int) by unfold wrap64;omega]
  refine Ev.neg (by omega) (Ev.pos (by omega) (Ev.pos (by omega) (Ev.neg (by omega) (Ev.some_ ?_))))
  rw [List.drop_eq_nil_of_le (by omega),chG,rd_nat,hl,hi]
  have hv:=hy (y.getD (y.length - 1) 0) (by rw [List.getD_eq_getElem?_getD,List.getElem?_eq_getElem (by omega)];exact List.getElem_mem _)
  rw [wrap_of (by omega) (by omega)]
 | d+1,i,last,h,hlast=>by
  have hi:i < y.length:=by omega
  refine Ev.succ ?_
  simp only [prng_Choose.l0]
  have hv:=hy y[i] (List.getElem_mem _)
  rw [bound_f n hn hn2,rd_lt y i hi,wrap_of (x:=y[i]) (by omega) (by omega),wrap_succ i (by omega),List.drop_eq_getElem_cons hi]
  refine Ev.pos (by omega) (Ev.pos (by omega) (Ev.pos (by omega) (Ev.some_bind ?_)))
  unfold chG
  by_cases c:y[i] < bndN n
  ·
   rw [if_pos c]
   exact Ev.pos c (Ev.neg (by omega) (Ev.some_ rfl))
  ·
   rw [if_neg c]
   refine Ev.neg c ?_
   exact choose_l0 n hn hn2 y hy h8 h1 d (i+1) y[i] (by omega) (fun _=>by simp [List.getD_eq_getElem?_getD,hi])
theorem U32.take {l:List Int} (h:U32 l) (k:Nat):U32 (l.take k):=fun x hx=>h x (List.mem_of_mem_take hx)
theorem choose_ev (l:List Int) (n:Int) (hl:U32 l) (hlen:l.length≤9223372036854775807):Ev (fun k=>prng_Choose.f k l n) (chooseP l n):=by
 unfold prng_Choose.f
 refine Ev.call (may_f n) ?_
 unfold chooseP
 by_cases hm:1≤n∧n≤2147483647
 ·
  rw [decide_eq_true hm]
  refine Ev.pos rfl (Ev.succ ?_)
  simp only [prng_Choose.j0]
  by_cases h0:l=[]
  ·
   subst h0
   exact Ev.pos (by simp) (Ev.some_ (by simp))
  ·
   have hpos:0 < l.length:=List.length_pos_iff.2 h0
   have hmn:mn (l.length:Int) 8=(((l.take 8).length:Nat):Int):=by
    unfold mn
    rw [List.length_take]
    split <;> omega
   rw [if_pos ⟨hm.1,hm.2,h0⟩,hmn,Int.toNat_natCast]
   have ht:l.take (l.take 8).length=l.take 8:=by
    rw [List.length_take]
    rcases Nat.lt_or_ge l.length 8 with h|h
    ·
     rw [Nat.min_eq_right (by omega),List.take_of_length_le (by omega),List.take_of_length_le (by omega)]
    ·
     rw [Nat.min_eq_left h]
   rw [ht]
   have h8:(l.take 8).length≤8:=by rw [List.length_take];omega
   have h1:0 < (l.take 8).length:=by rw [List.length_take];omega
   have hle:(l.take 8).length≤l.length:=by rw [List.length_take];omega
   refine Ev.neg (by simp;omega) (Ev.pos (by omega) (Ev.pos (by omega) ?_))
   have:=choose_l0 n hm.1 hm.2 (l.take 8) (hl.take 8) h8 h1 (l.take 8).length 0 0 (by omega) (fun h=>absurd h (by omega))
   rw [List.drop_zero] at this
   exact this
 ·
  rw [decide_eq_false hm,if_neg (fun h=>hm ⟨h.1,h.2.1⟩)]
  refine Ev.neg (by simp) (Ev.succ ?_)
  simp only [prng_Choose.j0]
  exact Ev.pos (by simp) (Ev.some_ rfl)
/-! ### Below -/
def wsL (seed:ByteArray):Int→Nat→List Int
 | _,0=>[]
 | u,c+1=>wordI seed u :: wsL seed (u+1) c
theorem wsL_length (seed:ByteArray):∀ (c:Nat) (u:Int),(wsL seed u c).length=c
 | 0,_=>rfl
 | c+1,u=>by rw [wsL,List.length_cons,wsL_length seed c]
theorem wsL_U32 (seed:ByteArray) (hs:seed.size≤64):∀ (c:Nat) (u:Int),0≤u→u+c≤2000000000→U32 (wsL seed u c)
 | 0,_,_,_=>fun x hx=>absurd hx (by simp [wsL])
 | c+1,u,h0,h1=>by
  intro x hx
  rw [wsL,List.mem_cons] at hx
  rcases hx with rfl|hx
  ·
   exact wordI_range seed u ⟨h0,by omega,hs⟩
  ·
   exact wsL_U32 seed hs c (u+1) (by omega) (by omega) x hx
def belowP (seed:ByteArray) (u n:Int):Int×Int:=if 1≤n∧n≤2147483647 then chG n (bndN n) (wsL seed u 8) 0 0 else (0,0)
theorem belowP_range (seed:ByteArray) (u n:Int) (hs:seed.size≤64) (h0:0≤u) (h1:u≤1000000000):0≤(belowP seed u n).1∧(1≤n→n≤2147483647→(belowP seed u n).1 < n)∧0≤(belowP seed u n).2∧(belowP seed u n).2≤8:=by
 unfold belowP
 split
 ·
  rename_i h
  have hU:=wsL_U32 seed hs 8 u h0 (by omega)
  have:=chG_range n (bndN n) h.1 (wsL seed u 8) 0 0 (fun x hx=>(hU x hx).1) (by omega)
  rw [wsL_length] at this
  exact ⟨this.1,fun _ _=>this.2.1,this.2.2.1,by omega⟩
 ·
  rename_i h
  exact ⟨by simp,fun h1 h2=>absurd ⟨h1,h2⟩ h,by simp,by simp⟩
theorem below_l0 (seed:ByteArray) (u0 n:Int) (hn:1≤n) (hn2:n≤2147483647) (hu:u0+8≤1000000000):∀ (c i:Nat) (last:Int) (b:ByteArray),i+c=8→GenI seed (u0+i) b →
  ∃ b',GenI seed (u0+(chG n (bndN n) (wsL seed (u0+i) c) last i).2) b'∧Ev (fun k=>prng_Gen_Below.l0 k n last (i:Int) seed (u0+i) b) ((chG n (bndN n) (wsL seed (u0+i) c) last i).1,seed,u0+(chG n (bndN n) (wsL seed (u0+i) c) last i).2,b')
 | 0,i,last,b,h,hg=>by
  refine ⟨b,hg,Ev.succ ?_⟩
  simp only [prng_Gen_Below.l0]
  exact Ev.neg (by omega) (Ev.neg (by omega) (Ev.some_ rfl))
 | c+1,i,last,b,h,hg=>by
  have hr:=wordI_range seed (u0+i) ⟨hg.2.1,by omega,hg.1⟩
  have hnx:=hg.next
  rw [show u0+(i:Int)+1=u0+((i+1:Nat):Int) by omega] at hnx
  have hw:=word_ev seed (u0+i) b hg (by omega)
  rw [show u0+(i:Int)+1=u0+((i+1:Nat):Int) by omega] at hw
  have hb:=bound_f n hn hn2
  rw [wsL,show u0+(i:Int)+1=u0+((i+1:Nat):Int) by omega]
  unfold chG
  by_cases cc:wordI seed (u0+i) < bndN n
  ·
   rw [if_pos cc]
   refine ⟨_,hnx,Ev.succ ?_⟩
   simp only [prng_Gen_Below.l0]
   refine Ev.pos (by omega) (Ev.bind hw (Ev.call hb ?_))
   simp only []
   rw [wrap_of (x:=wordI seed (u0+i)) (by omega) (by omega)]
   exact Ev.pos cc (Ev.neg (by omega) (Ev.some_ rfl))
  ·
   rw [if_neg cc]
   obtain ⟨b',g',e'⟩:=below_l0 seed u0 n hn hn2 hu c (i+1) (wordI seed (u0+i)) _ (by omega) hnx
   refine ⟨b',g',Ev.succ ?_⟩
   simp only [prng_Gen_Below.l0]
   refine Ev.pos (by omega) (Ev.bind hw (Ev.call hb ?_))
   simp only []
   rw [wrap_of (x:=wordI seed (u0+i)) (by omega) (by omega),wrap_succ i (by omega)]
   exact Ev.neg cc e'
theorem below_ev (seed:ByteArray) (u n:Int) (b:ByteArray) (hg:GenI seed u b) (hu:u+8≤1000000000) :
  ∃ b',GenI seed (u+(belowP seed u n).2) b'∧Ev (fun k=>prng_Gen_Below.f k seed u b n) ((belowP seed u n).1,seed,u+(belowP seed u n).2,b'):=by
 unfold prng_Gen_Below.f belowP
 by_cases hm:1≤n∧n≤2147483647
 ·
  rw [if_pos hm]
  have:=below_l0 seed u n hm.1 hm.2 hu 8 0 0 b rfl (by simpa using hg)
  simp only [show u+((0:Nat):Int)=u by omega] at this
  obtain ⟨b',g',e'⟩:=this
  refine ⟨b',g',Ev.call (may_f n) ?_⟩
  rw [decide_eq_true hm]
  exact Ev.pos rfl e'
 ·
  rw [if_neg hm]
  refine ⟨b,by simpa using hg,Ev.call (may_f n) ?_⟩
  rw [decide_eq_false hm]
  exact Ev.neg (by simp) (Ev.some_ (by simp))
end Go.Proofs.Ytelcaepenfjloaa.Pure
/-! #### Pr63 -/
namespace Go.Proofs.Ytelcaepenfjloaa.Print
open Go.RowKit Go.Proofs.YtelcaepenfjloaaW.PrintWords Go.Proofs.YtelcaepenfjloaaW.PrintLast Go.Proofs.YtelcaepenfjloaaW.PrintMore
attribute [local go_sem] max2_int min2_int max_two min_two max_three min_three max_four min_four
set_option linter.unusedVariables false
set_option linter.unusedSimpArgs false
/-! ### prng_Gen_Pick: function 63 -/
mutual
def prng_Gen_Pick.j0:Nat→Int→Int→Bool→ByteArray→Int→ByteArray→Option (List Int×ByteArray×Int×ByteArray)
 | 0,_,_,_,_,_,_=>none
 | k+1,x1,x2,x29,x1000,x1001,x1002=>if x29=true then (some (([]:List Int),x1000,x1001,x1002)) else (if 0≤x1 then (if (x1:Int).toNat≤35184372088832 then (prng_Gen_Pick.l0 k x1 x2 (List.replicate (x1:Int).toNat 0) x1 0 x1000 x1001 x1002) else (none)) else (none))
def prng_Gen_Pick.l0:Nat→Int→Int→List Int→Int→Int→ByteArray→Int→ByteArray→Option (List Int×ByteArray×Int×ByteArray)
 | 0,_,_,_,_,_,_,_,_=>none
 | k+1,x1,x2,x7,x32,x33,x1000,x1001,x1002=>if x33 < x32 then (if 0≤x33 then (if x33 < (x7.length:Int) then (prng_Gen_Pick.l0 k x1 x2 (x7.set (x33:Int).toNat x33) x32 (wrap64 (x33+1)) x1000 x1001 x1002) else (none)) else (none)) else (prng_Gen_Pick.l1 k x1 x2 x7 x2 0 x1000 x1001 x1002)
def prng_Gen_Pick.l1:Nat→Int→Int→List Int→Int→Int→ByteArray→Int→ByteArray→Option (List Int×ByteArray×Int×ByteArray)
 | 0,_,_,_,_,_,_,_,_=>none
 | k+1,x1,x2,x7,x41,x42,x1000,x1001,x1002=>if x42 < x41 then ((prng_Gen_Below.f k x1000 x1001 x1002 (wrap64 (x1 - x42))).bind fun bt435=>(if 0≤(wrap64 (x42+bt435.1)) then (if (wrap64 (x42+bt435.1)) < (x7.length:Int) then (if 0≤x42 then (if x42 < (x7.length:Int) then (prng_Gen_Pick.l1 k x1 x2 ((x7.set (x42:Int).toNat (rd x7 (wrap64 (x42+bt435.1)))).set ((wrap64 (x42+bt435.1)):Int).toNat (rd x7 x42)) x41 (wrap64 (x42+1)) bt435.2.1 bt435.2.2.1 bt435.2.2.2) else (none)) else (none)) else (none)) else (none))) else (if 0≤x2 then (if x2≤(x7.length:Int) then (some ((x7.take (x2:Int).toNat),x1000,x1001,x1002)) else (none)) else (none))
end
def prng_Gen_Pick.f (k:Nat) (s0_0:ByteArray) (s0_1:Int) (s0_2:ByteArray) (a1:Int) (a2:Int):Option (List Int×ByteArray×Int×ByteArray):=if a1 < 0 then (prng_Gen_Pick.j0 k a1 a2 true s0_0 s0_1 s0_2) else (if a1 > 4096 then (prng_Gen_Pick.j0 k a1 a2 true s0_0 s0_1 s0_2) else (if a2 < 0 then (prng_Gen_Pick.j0 k a1 a2 true s0_0 s0_1 s0_2) else (prng_Gen_Pick.j0 k a1 a2 (decide (a2 > a1)) s0_0 s0_1 s0_2)))
theorem prng_Gen_Pick.mono_l:∀ k,(∀ y0 y1 y2 y3 y4 y5,LeO (prng_Gen_Pick.j0 k y0 y1 y2 y3 y4 y5) (prng_Gen_Pick.j0 (k+1) y0 y1 y2 y3 y4 y5))∧(∀ y0 y1 y2 y3 y4 y5 y6 y7,LeO (prng_Gen_Pick.l0 k y0 y1 y2 y3 y4 y5 y6 y7) (prng_Gen_Pick.l0 (k+1) y0 y1 y2 y3 y4 y5 y6 y7))∧(∀ y0 y1 y2 y3 y4 y5 y6 y7,LeO (prng_Gen_Pick.l1 k y0 y1 y2 y3 y4 y5 y6 y7) (prng_Gen_Pick.l1 (k+1) y0 y1 y2 y3 y4 y5 y6 y7))
 | 0=>⟨fun _ _ _ _ _ _ r h=>by simp [prng_Gen_Pick.j0] at h,fun _ _ _ _ _ _ _ _ r h=>by simp [prng_Gen_Pick.l0] at h,fun _ _ _ _ _ _ _ _ r h=>by simp [prng_Gen_Pick.l1] at h⟩
 | k+1=>by
  obtain ⟨ih0,ih1,ih2⟩:=prng_Gen_Pick.mono_l k
  refine ⟨?_,?_,?_⟩
  ·
   intro y0 y1 y2 y3 y4 y5
   unfold prng_Gen_Pick.j0
   repeat' first
   | (with_reducible exact ih0 _ _ _ _ _ _)
   | (with_reducible exact ih1 _ _ _ _ _ _ _ _)
   | (with_reducible exact ih2 _ _ _ _ _ _ _ _)
   | (with_reducible exact prng_Gen_Below.mono _ _ _ _ _)
   | (with_reducible exact LeO.refl _)
   | (with_reducible exact LeO.none _)
   | (with_reducible refine LeO.ite ?_ ?_)
   | (with_reducible refine LeO.bind ?_ (fun _=>?_))
   | exact ih0 _ _ _ _ _ _
   | exact ih1 _ _ _ _ _ _ _ _
   | exact ih2 _ _ _ _ _ _ _ _
   | exact prng_Gen_Below.mono _ _ _ _ _
   | exact LeO.none _
   | refine LeO.ite ?_ ?_
   | refine LeO.bind ?_ (fun _=>?_)
  ·
   intro y0 y1 y2 y3 y4 y5 y6 y7
   unfold prng_Gen_Pick.l0
   repeat' first
   | (with_reducible exact ih0 _ _ _ _ _ _)
   | (with_reducible exact ih1 _ _ _ _ _ _ _ _)
   | (with_reducible exact ih2 _ _ _ _ _ _ _ _)
   | (with_reducible exact prng_Gen_Below.mono _ _ _ _ _)
   | (with_reducible exact LeO.refl _)
   | (with_reducible exact LeO.none _)
   | (with_reducible refine LeO.ite ?_ ?_)
   | (with_reducible refine LeO.bind ?_ (fun _=>?_))
   | exact ih0 _ _ _ _ _ _
   | exact ih1 _ _ _ _ _ _ _ _
   | exact ih2 _ _ _ _ _ _ _ _
   | exact prng_Gen_Below.mono _ _ _ _ _
   | exact LeO.none _
   | refine LeO.ite ?_ ?_
   | refine LeO.bind ?_ (fun _=>?_)
  ·
   intro y0 y1 y2 y3 y4 y5 y6 y7
   unfold prng_Gen_Pick.l1
   repeat' first
   | (with_reducible exact ih0 _ _ _ _ _ _)
   | (with_reducible exact ih1 _ _ _ _ _ _ _ _)
   | (with_reducible exact ih2 _ _ _ _ _ _ _ _)
   | (with_reducible exact prng_Gen_Below.mono _ _ _ _ _)
   | (with_reducible exact LeO.refl _)
   | (with_reducible exact LeO.none _)
   | (with_reducible refine LeO.ite ?_ ?_)
   | (with_reducible refine LeO.bind ?_ (fun _=>?_))
   | exact ih0 _ _ _ _ _ _
   | exact ih1 _ _ _ _ _ _ _ _
   | exact ih2 _ _ _ _ _ _ _ _
   | exact prng_Gen_Below.mono _ _ _ _ _
   | exact LeO.none _
   | refine LeO.ite ?_ ?_
   | refine LeO.bind ?_ (fun _=>?_)
theorem prng_Gen_Pick.mono:∀ a0 a1 a2 a3 a4 k,LeO (prng_Gen_Pick.f k a0 a1 a2 a3 a4) (prng_Gen_Pick.f (k+1) a0 a1 a2 a3 a4):=by
 intro a0 a1 a2 a3 a4 k
 obtain ⟨ih0,ih1,ih2⟩:=prng_Gen_Pick.mono_l k
 unfold prng_Gen_Pick.f
 repeat' first
   | (with_reducible exact ih0 _ _ _ _ _ _)
   | (with_reducible exact ih1 _ _ _ _ _ _ _ _)
   | (with_reducible exact ih2 _ _ _ _ _ _ _ _)
   | (with_reducible exact prng_Gen_Below.mono _ _ _ _ _)
   | (with_reducible exact LeO.refl _)
   | (with_reducible exact LeO.none _)
   | (with_reducible refine LeO.ite ?_ ?_)
   | (with_reducible refine LeO.bind ?_ (fun _=>?_))
   | exact ih0 _ _ _ _ _ _
   | exact ih1 _ _ _ _ _ _ _ _
   | exact ih2 _ _ _ _ _ _ _ _
   | exact prng_Gen_Below.mono _ _ _ _ _
   | exact LeO.none _
   | refine LeO.ite ?_ ?_
   | refine LeO.bind ?_ (fun _=>?_)
def prng_Gen_Pick.T13:Bool×List (List Nat×List Nat):=(true,[([],[]),([],[]),([],[]),([],[]),([],[]),([],[]),([4,5],[4,5]),([6],[6]),([],[]),([],[]),([8,9],[8,9]),([10],[10]),([0,1,0,1,4,5,6,7,11],[0,1]),([12,7,0,1,4,5,6,7,11],[7,12]),([2,3,0,1,2,3,4,5,6,7,8,9,10,11,12,13],[2,3]),([14,11,13,0,1,2,3,4,5,6,7,8,9,10,11,12,13],[11,14])])
def prng_Gen_Pick.B13:List Nat:=[0,0,0,0,0,0,48,112,0,0,768,1792,4083,8179,16383,32767]
theorem prng_Gen_Pick.tab13:rtab .any (opsOf Try.f63 13)=prng_Gen_Pick.T13:=by kernel_rfl
theorem prng_Gen_Pick.bits13:waitsOk prng_Gen_Pick.T13.2 prng_Gen_Pick.B13=true:=by kernel_rfl
theorem v_clip {α:Type} {d:Kd α} {e n m c base base':Nat} {ok:Nat→Prop} {w:World} {A:Option Addr} {xs:List α} (h:d.R e w base ok (.slice A n c) xs) (hm:m=xs.length):Kd.V d e w base' ok (.slice A m m) xs:=by
 subst hm
 obtain ⟨A',c',hv,hl,hf⟩:=(Kd.R_V h:Kd.V d e w base ok (.slice A n c) xs)
 injection hv with h1 h2 h3
 subst h1
 exact ⟨_,_,rfl,Nat.le_refl _,hf⟩
set_option maxHeartbeats 8000000 in
set_option maxRecDepth 100000 in
theorem prng_Gen_Pick.calls (k:Nat) (g:Nat) (s0_0:ByteArray) (s0_1:Int) (s0_2:ByteArray) (a1:Int) (a2:Int) (r1:List Int) (r2:ByteArray) (r3:Int) (r4:ByteArray) (w0 w:World) (hI:IsS130 w0 w g s0_0 s0_1 s0_2) (hB:Below w0.heap.size w0 w) (h:prng_Gen_Pick.f k s0_0 s0_1 s0_2 a1 a2=some (r1,r2,r3,r4)) :
  Calls Try.prog 63 #[.pointer (some ⟨g,0,none⟩),.int .i64 a1,.int .i64 a2] w fun e w'=>∃ v0_:Value,e=.returned (v0_)∧Kd.V (Kd.int .i64) 3 w' w.heap.size (fun k_=>(w.heap.size≤k_)) v0_ r1∧IsS130 w0 w' g r2 r3 r4∧Below w0.heap.size w0 w'∧KeepBut w w' g none:=by
 have HI0:=Aside0.mk hI
 have HK:=Aside0.mk (KeepBut.refl w g none)
 have HL:=Aside0.mk hB.size
 clear hI
 have HW0:=Aside0.mk hB.size
 have HB:=Aside0.mk hB
 clear hB
 have H:(if a1 < 0 then (prng_Gen_Pick.j0 k a1 a2 true s0_0 s0_1 s0_2) else (if a1 > 4096 then (prng_Gen_Pick.j0 k a1 a2 true s0_0 s0_1 s0_2) else (if a2 < 0 then (prng_Gen_Pick.j0 k a1 a2 true s0_0 s0_1 s0_2) else (prng_Gen_Pick.j0 k a1 a2 (decide (a2 > a1)) s0_0 s0_1 s0_2))))=some (r1,r2,r3,r4):=h
 clear h
 have HC4:=Aside0.mk H
 clear H
 go_enter Try.func63,Try.ntmps63
 go_upto_region 1 with (fail)
 go_cut [29] (fun v29 wc=>∃ (kq:Nat) (x29_3:Bool),v29=.bool x29_3∧Aside0 (prng_Gen_Pick.j0 kq a1 a2 x29_3 s0_0 s0_1 s0_2=some (r1,r2,r3,r4))∧Aside0 (kq≤k)∧Aside0 (IsS130 w0 wc g s0_0 s0_1 s0_2)∧Aside0 (KeepBut w wc g none)∧Aside0 (Below w0.heap.size w0 wc))
 case first =>
  have H:=HC4.out
  clear HC4
  by_cases c5:a1 < 0
  ·
   rw [if_pos c5] at H
   have c5b0:decide (a1 < 0)=true:=decide_eq_true c5
   clear c5
   (first|rw [c5b0]|(simp only [i64_w,i32_w];rw [c5b0])|skip)
   have H':=Aside0.mk H
   clear H
   go_wp2
   go_meet
   case rel=>exact ⟨_,(true),(by first|rfl|(simp;done)|(simp [*];done)),H',⟨by first|omega|exact Nat.le_refl _⟩,⟨by repeat (first|(with_reducible first|exact HI0.out|apply IsS130.alloc|apply IsS130.drewN|apply IsS130.drew|apply IsS130.set_0|apply IsS130.set_1|apply IsS130.set_2)|exact HI0.out)⟩,⟨by repeat (first|(with_reducible first|exact HK.out|apply KeepBut.set_|apply keep_drewN|apply keep_drew|apply keep_alloc)|exact HK.out)⟩,⟨by repeat (first|(with_reducible first|exact HB.out|apply below_alloc|apply pw_below_drewN|apply below_drew1|refine below_set ?_ (IsS130.ge HI0.out))|exact HB.out)⟩⟩
  ·
   rw [if_neg c5] at H
   have c5b0:decide (a1 < 0)=false:=decide_eq_false c5
   clear c5
   (first|rw [c5b0]|(simp only [i64_w,i32_w];rw [c5b0])|skip)
   by_cases c6:a1 > 4096
   ·
    rw [if_pos c6] at H
    have c6b0:decide (4096 < a1)=true:=decide_eq_true c6
    clear c6
    have H':=Aside0.mk H
    clear H
    go_wp2
    go_meet
    case rel=>exact ⟨_,(true),(by first|rfl|(simp;done)|(simp [*];done)),H',⟨by first|omega|exact Nat.le_refl _⟩,⟨by repeat (first|(with_reducible first|exact HI0.out|apply IsS130.alloc|apply IsS130.drewN|apply IsS130.drew|apply IsS130.set_0|apply IsS130.set_1|apply IsS130.set_2)|exact HI0.out)⟩,⟨by repeat (first|(with_reducible first|exact HK.out|apply KeepBut.set_|apply keep_drewN|apply keep_drew|apply keep_alloc)|exact HK.out)⟩,⟨by repeat (first|(with_reducible first|exact HB.out|apply below_alloc|apply pw_below_drewN|apply below_drew1|refine below_set ?_ (IsS130.ge HI0.out))|exact HB.out)⟩⟩
   ·
    rw [if_neg c6] at H
    have c6b0:decide (4096 < a1)=false:=decide_eq_false c6
    clear c6
    by_cases c7:a2 < 0
    ·
     rw [if_pos c7] at H
     have c7b0:decide (a2 < 0)=true:=decide_eq_true c7
     clear c7
     have H':=Aside0.mk H
     clear H
     go_wp2
     go_meet
     case rel=>exact ⟨_,(true),(by first|rfl|(simp;done)|(simp [*];done)),H',⟨by first|omega|exact Nat.le_refl _⟩,⟨by repeat (first|(with_reducible first|exact HI0.out|apply IsS130.alloc|apply IsS130.drewN|apply IsS130.drew|apply IsS130.set_0|apply IsS130.set_1|apply IsS130.set_2)|exact HI0.out)⟩,⟨by repeat (first|(with_reducible first|exact HK.out|apply KeepBut.set_|apply keep_drewN|apply keep_drew|apply keep_alloc)|exact HK.out)⟩,⟨by repeat (first|(with_reducible first|exact HB.out|apply below_alloc|apply pw_below_drewN|apply below_drew1|refine below_set ?_ (IsS130.ge HI0.out))|exact HB.out)⟩⟩
    ·
     rw [if_neg c7] at H
     have c7b0:decide (a2 < 0)=false:=decide_eq_false c7
     clear c7
     have H':=Aside0.mk H
     clear H
     go_wp2
     go_meet
     case rel=>exact ⟨_,(decide (a2 > a1)),(by first|rfl|(simp;done)|(simp [*];done)),H',⟨by first|omega|exact Nat.le_refl _⟩,⟨by repeat (first|(with_reducible first|exact HI0.out|apply IsS130.alloc|apply IsS130.drewN|apply IsS130.drew|apply IsS130.set_0|apply IsS130.set_1|apply IsS130.set_2)|exact HI0.out)⟩,⟨by repeat (first|(with_reducible first|exact HK.out|apply KeepBut.set_|apply keep_drewN|apply keep_drew|apply keep_alloc)|exact HK.out)⟩,⟨by repeat (first|(with_reducible first|exact HB.out|apply below_alloc|apply pw_below_drewN|apply below_drew1|refine below_set ?_ (IsS130.ge HI0.out))|exact HB.out)⟩⟩
 case rest =>
  clear HC4
  try clear p2
  try clear c5
  try clear c5b0
  try clear c6
  try clear c6b0
  try clear c7
  try clear c7b0
  obtain ⟨kq,x29_3,rfl,HA,HJ3,HI0,HK,HB⟩:=hcut
  cases kq with
  | zero=>exact absurd HA.out (by simp [prng_Gen_Pick.j0])
  | succ kj3 =>
   have H:=HA.out
   clear HA
   simp only [prng_Gen_Pick.j0] at H
   by_cases c8:x29_3=true
   ·
    subst c8
    have H1:(some (([]:List Int),s0_0,s0_1,s0_2))=some (r1,r2,r3,r4):=by rw [if_pos rfl] at H;exact H
    clear H
    have H:=H1
    clear H1
    simp only [Option.some.injEq,Prod.mk.injEq] at H
    obtain ⟨rfl,rfl,rfl,rfl⟩:=H
    go_wp2
    go_ret
    exact ⟨_,by first|rfl|(simp [errW_none,errW_some] <;> rfl)|(simp [*,errW_none,errW_some] <;> rfl),by first|exact Kd.V_nil _ _ _ _ _|exact Kd.R_V (Kd.R_nil _ _ _ _ _),by repeat (first|(with_reducible first|exact HI0.out|apply IsS130.alloc|apply IsS130.drewN|apply IsS130.drew|apply IsS130.set_0|apply IsS130.set_1|apply IsS130.set_2)|exact HI0.out),by repeat (first|(with_reducible first|exact HB.out|apply below_alloc|apply pw_below_drewN|apply below_drew1|refine below_set ?_ (IsS130.ge HI0.out))|exact HB.out),by repeat (first|(with_reducible first|exact HK.out|apply KeepBut.set_|apply keep_drewN|apply keep_drew|apply keep_alloc)|exact HK.out)⟩
   ·
    replace c8:=Bool.eq_false_iff.mpr c8
    subst c8
    have H1:(if 0≤a1 then (if (a1:Int).toNat≤35184372088832 then (prng_Gen_Pick.l0 kj3 a1 a2 (List.replicate (a1:Int).toNat 0) a1 0 s0_0 s0_1 s0_2) else (none)) else (none))=some (r1,r2,r3,r4):=by rw [if_neg (show ¬ (false=true) by decide)] at H;exact H
    clear H
    have H:=H1
    clear H1
    by_cases c9:0≤a1
    ·
     rw [if_pos c9] at H
     have c9b0:=eq_true c9
     have c9b1:decide (0≤a1)=true:=decide_eq_true c9
     clear c9
     by_cases c10:(a1:Int).toNat≤35184372088832
     ·
      rw [if_pos c10] at H
      have c10b0:=eq_true c10
      have c10b1:decide ((a1:Int).toNat≤35184372088832)=true:=decide_eq_true c10
      clear c10
      obtain ⟨y431,hy431⟩:∃ y_:List Int,y_=(List.replicate (a1:Int).toNat 0):=⟨_,rfl⟩
      replace H:(prng_Gen_Pick.l0 kj3 a1 a2 y431 a1 0 s0_0 s0_1 s0_2)=some (r1,r2,r3,r4):=by first|(rw [hy431];with_reducible exact H)|(have H2_:=(Option.bind_some _ _).symm.trans H;rw [hy431];with_reducible exact H2_)|(have H2_:=(Option.bind_some _ _).symm.trans H;with_reducible exact H2_)|with_reducible exact H|(rw [hy431];exact H)|exact H
      have Ny431:=Aside0.mk hy431
      clear hy431
      have H':=Aside0.mk H
      clear H
      go_wp2_with (first|((with_reducible refine gate_dst (N:=31) rfl ?_);refine Kd.R_make (Kd.int .i64) _ 3 rfl (N:=31) rfl 77 _ _ rfl a1 rfl rfl Try.underlying77 (.int .i64 0) 8 info3 rfl (by decide) (by omega) 0 (ok:=fun _=>True) (okp:=fun _=>True) rfl (fun _ hk=>hk) trivial (of_decide_eq_true (by first|(with_reducible assumption)|assumption)) (Nat.le_trans (Nat.mul_le_mul_right _ (of_decide_eq_true (by first|(with_reducible assumption)|assumption):a1.toNat≤35184372088832)) (by omega)) (Below.refl _ _) (Nat.le_refl _) ?_;intro v432 w11 ho12 hb hg_ hnew_;clear hg_ hnew_;(first|rw [← Ny431.out] at ho12|(simp only [Int.reduceToNat] at ho12;rw [← Ny431.out] at ho12));have n0_:=Aside0.mk (Kd.R_lower (Kd.R_newM (M:=fun k_=>(w.heap.size≤k_)) ho12 (keep_size (w:=w) (g:=g) (row:=none) (by repeat (first|(with_reducible first|exact HK.out|apply KeepBut.set_|apply keep_drewN|apply keep_drew|apply keep_alloc)|exact HK.out))) (fun k_ h_=>h_)) (keep_size (w:=w) (g:=g) (row:=none) (by repeat (first|(with_reducible first|exact HK.out|apply KeepBut.set_|apply keep_drewN|apply keep_drew|apply keep_alloc)|exact HK.out))));have n1_:=Aside0.mk (IsS130.below (by repeat (first|(with_reducible first|exact HI0.out|apply IsS130.alloc|apply IsS130.drewN|apply IsS130.drew|apply IsS130.set_0|apply IsS130.set_1|apply IsS130.set_2)|exact HI0.out)) hb);have n2_:=Aside0.mk (KeepBut.trans (by repeat (first|(with_reducible first|exact HK.out|apply KeepBut.set_|apply keep_drewN|apply keep_drew|apply keep_alloc)|exact HK.out)) (KeepBut.of_below hb g none) (.inl rfl));have n3_:=Aside0.mk (below_step (by repeat (first|(with_reducible first|exact HB.out|apply below_alloc|apply pw_below_drewN|apply below_drew1|refine below_set ?_ (IsS130.ge HI0.out))|exact HB.out)) hb);clear HI0;clear HK;clear HB;have HO433:=n0_;have HI0:=n1_;have HK:=n2_;have HB:=n3_;clear n0_ n1_ n2_ n3_;clear hb ho12))
      go_loopg [33] kj3 (fun kq v33 w'=>∃ (x7_2:List Int) (x33_2:Int),v33=.int .i64 x33_2∧Aside0 (prng_Gen_Pick.l0 kq a1 a2 x7_2 a1 x33_2 s0_0 s0_1 s0_2=some (r1,r2,r3,r4))∧Aside0 (kq≤kj3)∧Aside0 (Kd.R (Kd.int .i64) 3 w' w.heap.size (fun k_=>(w.heap.size≤k_)) v432 x7_2)∧Aside0 (IsS130 w0 w' g s0_0 s0_1 s0_2)∧Aside0 (KeepBut w w' g none)∧Aside0 (Below w0.heap.size w0 w'))
      case atStart=>exact ⟨(y431),(0),(by first|rfl|(simp;done)|(simp [*];done)),H',⟨Nat.le_refl _⟩,⟨by (with_reducible repeat (first|apply Kd.R_alloc|apply Kd.R_drewN|apply Kd.R_drew));exact Kd.R_mono HO433.out (fun _ hk=>hk.1)⟩,⟨by repeat (first|(with_reducible first|exact HI0.out|apply IsS130.alloc|apply IsS130.drewN|apply IsS130.drew|apply IsS130.set_0|apply IsS130.set_1|apply IsS130.set_2)|exact HI0.out)⟩,⟨by repeat (first|(with_reducible first|exact HK.out|apply KeepBut.set_|apply keep_drewN|apply keep_drew|apply keep_alloc)|exact HK.out)⟩,⟨by repeat (first|(with_reducible first|exact HB.out|apply below_alloc|apply pw_below_drewN|apply below_drew1|refine below_set ?_ (IsS130.ge HI0.out))|exact HB.out)⟩⟩
      case round =>
       clear H'
       try clear c1
       try clear p2
       try clear c5
       try clear c5b0
       try clear c6
       try clear c6b0
       try clear c7
       try clear c7b0
       try clear c8
       try clear c9
       try clear c9b0
       try clear c9b1
       try clear c10
       try clear c10b0
       try clear c10b1
       try clear p2
       obtain ⟨x7_2,x33_2,rfl,HA,HK2,HO_7,HI0,HK,HB⟩:=hrel
       cases gk with
       | zero=>exact absurd HA.out (by simp [prng_Gen_Pick.l0])
       | succ k2 =>
        have H:=HA.out
        clear HA
        simp only [prng_Gen_Pick.l0] at H
        by_cases c13:x33_2 < a1
        ·
         rw [if_pos c13] at H
         have c13b0:decide (x33_2 < a1)=true:=decide_eq_true c13
         clear c13
         by_cases c14:0≤x33_2
         ·
          rw [if_pos c14] at H
          have c14b0:decide (0≤x33_2)=true:=decide_eq_true c14
          clear c14
          by_cases c15:x33_2 < (x7_2.length:Int)
          ·
           rw [if_pos c15] at H
           have c15b0:decide (x33_2 < (x7_2.length:Int))=true:=decide_eq_true c15
           clear c15
           obtain ⟨y434,hy434⟩:∃ y_:List Int,y_=(x7_2.set (x33_2:Int).toNat x33_2):=⟨_,rfl⟩
           replace H:(prng_Gen_Pick.l0 k2 a1 a2 y434 a1 (wrap64 (x33_2+1)) s0_0 s0_1 s0_2)=some (r1,r2,r3,r4):=by first|(rw [hy434];with_reducible exact H)|(have H2_:=(Option.bind_some _ _).symm.trans H;rw [hy434];with_reducible exact H2_)|(have H2_:=(Option.bind_some _ _).symm.trans H;with_reducible exact H2_)|with_reducible exact H|(rw [hy434];exact H)|exact H
           have Ny434:=Aside0.mk hy434
           clear hy434
           have H':=Aside0.mk H
           clear H
           have p16:0≤(x33_2:Int):=of_decide_eq_true (by first|(with_reducible assumption)|assumption)
           have q16:(x33_2:Int) < ((x7_2.length:Int):Int):=of_decide_eq_true (by first|(with_reducible assumption)|assumption)
           obtain ⟨go16,co16,eo16,gb16,gl16,cl16,HG16⟩:=Kd.R_form HO_7.out (by omega)
           (first|cases eo16|(injection eo16 with ea_ en_ ec_;(first|subst ea_|(injection ea_ with ea_;subst ea_));subst ec_;clear en_))
           have GB16:=Aside0.mk gb16
           have GG16:=Aside0.mk HG16
           clear gb16 gl16 HG16
           obtain ⟨hx16_0,hf16_0⟩:=Kd.R_celln 0 HO_7.out (x33_2:Int) p16 q16
           replace p16:=eq_true p16
           replace q16:=eq_true q16
           have HP17:=Kd.R_putg HO_7.out (x33_2:Int) x33_2
           go_wp2_with (first|((with_reducible refine gate_store (t:=3) (p:=39) rfl ?_);refine store_event (t:=3) (p:=39) (v:=?vo_w18) (w1:=(wr.setCell ⟨go16,(x33_2:Int).toNat,none⟩ (.int .i64 x33_2))) ?hg ?ho ?hn ?hr ?_;(case ho=>rfl);(case hg=>rfl);(case hn=>rfl);(case hr=>first|(go_simp;done)|(go_simp;rfl));intro w18 hw;have hg:wr.grownBy w18 (some go16):=(by rw [hw];exact HP17.2);have hp_:Kd.R (Kd.int .i64) 3 w18 w.heap.size (fun k_=>(w.heap.size≤k_)) (.slice (some ⟨go16,0,none⟩) x7_2.length co16) y434:=(by rw [hw,Ny434.out];exact HP17.1);clear HP17;have n0_:=Aside0.mk (hp_);have n1_:=Aside0.mk (IsS130.grown (by repeat (first|(with_reducible first|exact HI0.out|apply IsS130.alloc|apply IsS130.drewN|apply IsS130.drew|apply IsS130.set_0|apply IsS130.set_1|apply IsS130.set_2)|exact HI0.out)) hg (IsS130.own_ne HI0.out HO_7.out (by decide)));have n2_:=Aside0.mk ((by rw [hw];exact below_set (HB.out) (Nat.le_trans HL.out GB16.out):Below w0.heap.size w0 w18));have n3_:=Aside0.mk (KeepBut.trans (by repeat (first|(with_reducible first|exact HK.out|apply KeepBut.set_|apply keep_drewN|apply keep_drew|apply keep_alloc)|exact HK.out)) (KeepBut.of_grown hg g) (Kd.R_base2 HO_7.out));clear HO_7;clear HI0;clear HB;clear HK;have HO_7:=n0_;have HI0:=n1_;have HB:=n2_;have HK:=n3_;clear n0_ n1_ n2_ n3_;clear hg hw hp_))
           go_roundg k2
           case measure=>have:=HJ3.out;have:=HK2.out;omega
           case rel=>exact ⟨(y434),(wrap64 (x33_2+1)),(by first|rfl|(simp;done)|(simp [*];done)),H',⟨by have:=HJ3.out;have:=HK2.out;omega⟩,⟨by (with_reducible repeat (first|apply Kd.R_alloc|apply Kd.R_drewN|apply Kd.R_drew));exact HO_7.out⟩,⟨by repeat (first|(with_reducible first|exact HI0.out|apply IsS130.alloc|apply IsS130.drewN|apply IsS130.drew|apply IsS130.set_0|apply IsS130.set_1|apply IsS130.set_2)|exact HI0.out)⟩,⟨by repeat (first|(with_reducible first|exact HK.out|apply KeepBut.set_|apply keep_drewN|apply keep_drew|apply keep_alloc)|exact HK.out)⟩,⟨by repeat (first|(with_reducible first|exact HB.out|apply below_alloc|apply pw_below_drewN|apply below_drew1|refine below_set ?_ (IsS130.ge HI0.out))|exact HB.out)⟩⟩
          ·
           rw [if_neg c15] at H
           exact absurd H (by simp)
         ·
          rw [if_neg c14] at H
          exact absurd H (by simp)
        ·
         rw [if_neg c13] at H
         have c13b0:decide (x33_2 < a1)=false:=decide_eq_false c13
         clear c13
         have H':=Aside0.mk H
         clear H
         go_wp2
         go_loopg [42] k2 (fun kq v42 w'=>∃ (x7_3:List Int) (x42_3:Int) (x1000_3:ByteArray) (x1001_3:Int) (x1002_3:ByteArray),v42=.int .i64 x42_3∧Aside0 (prng_Gen_Pick.l1 kq a1 a2 x7_3 a2 x42_3 x1000_3 x1001_3 x1002_3=some (r1,r2,r3,r4))∧Aside0 (kq≤k2)∧Aside0 (Kd.R (Kd.int .i64) 3 w' w.heap.size (fun k_=>(w.heap.size≤k_)) v432 x7_3)∧Aside0 (IsS130 w0 w' g x1000_3 x1001_3 x1002_3)∧Aside0 (KeepBut w w' g none)∧Aside0 (Below w0.heap.size w0 w'))
         case atStart=>exact ⟨(x7_2),(0),(s0_0),(s0_1),(s0_2),(by first|rfl|(simp;done)|(simp [*];done)),H',⟨Nat.le_refl _⟩,⟨by (with_reducible repeat (first|apply Kd.R_alloc|apply Kd.R_drewN|apply Kd.R_drew));exact HO_7.out⟩,⟨by repeat (first|(with_reducible first|exact HI0.out|apply IsS130.alloc|apply IsS130.drewN|apply IsS130.drew|apply IsS130.set_0|apply IsS130.set_1|apply IsS130.set_2)|exact HI0.out)⟩,⟨by repeat (first|(with_reducible first|exact HK.out|apply KeepBut.set_|apply keep_drewN|apply keep_drew|apply keep_alloc)|exact HK.out)⟩,⟨by repeat (first|(with_reducible first|exact HB.out|apply below_alloc|apply pw_below_drewN|apply below_drew1|refine below_set ?_ (IsS130.ge HI0.out))|exact HB.out)⟩⟩
         case round =>
          clear H'
          try clear c1
          try clear p1
          try clear q1
          try clear hx1
          try clear p2
          try clear c5
          try clear c5b0
          try clear c6
          try clear c6b0
          try clear p6
          try clear c7
          try clear c7b0
          try clear c8
          try clear c9
          try clear c9b0
          try clear c9b1
          try clear c10
          try clear c10b0
          try clear c10b1
          try clear c13
          try clear c13b0
          try clear c14
          try clear c14b0
          try clear c15
          try clear c15b0
          try clear p16
          try clear q16
          try clear hx16
          try clear hf16
          try clear hx16_0
          try clear p16
          try clear p2
          try clear q16
          obtain ⟨x7_3,x42_3,x1000_3,x1001_3,x1002_3,rfl,HA,HK3,HO_7,HI0,HK,HB⟩:=hrel
          cases gk with
          | zero=>exact absurd HA.out (by simp [prng_Gen_Pick.l1])
          | succ k3 =>
           have H:=HA.out
           clear HA
           simp only [prng_Gen_Pick.l1] at H
           by_cases c19:x42_3 < a2
           ·
            rw [if_pos c19] at H
            have c19b0:decide (x42_3 < a2)=true:=decide_eq_true c19
            clear c19
            replace H:=Option.bind_eq_some_iff.mp H
            obtain ⟨⟨t435,t436,t437,t438⟩,A200,H⟩:=H
            replace H:(if 0≤(wrap64 (x42_3+t435)) then (if (wrap64 (x42_3+t435)) < (x7_3.length:Int) then (if 0≤x42_3 then (if x42_3 < (x7_3.length:Int) then (prng_Gen_Pick.l1 k3 a1 a2 ((x7_3.set (x42_3:Int).toNat (rd x7_3 (wrap64 (x42_3+t435)))).set ((wrap64 (x42_3+t435)):Int).toNat (rd x7_3 x42_3)) a2 (wrap64 (x42_3+1)) t436 t437 t438) else (none)) else (none)) else (none)) else (none))=some (r1,r2,r3,r4):=H
            have A20:=Aside0.mk A200
            clear A200
            obtain ⟨ji21,hji21⟩:∃ j_:Int,(wrap64 (x42_3+t435))=j_:=⟨_,rfl⟩
            replace H:(if 0≤(ji21) then (if (ji21) < (x7_3.length:Int) then (if 0≤x42_3 then (if x42_3 < (x7_3.length:Int) then (prng_Gen_Pick.l1 k3 a1 a2 ((x7_3.set (x42_3:Int).toNat (rd x7_3 (ji21))).set ((ji21):Int).toNat (rd x7_3 x42_3)) a2 (wrap64 (x42_3+1)) t436 t437 t438) else (none)) else (none)) else (none)) else (none))=some (r1,r2,r3,r4):=by first|(rw [hji21] at H;exact H)|(simp only [hji21] at H ⊢;exact H)
            (try rw [hji21] at A20)
            have hji21w:(IntKind.i64.wrap (x42_3+t435))=ji21:=(i64_w _).trans hji21
            by_cases c22:0≤(ji21)
            ·
             rw [if_pos c22] at H
             have c22b0:decide (0≤(ji21))=true:=decide_eq_true c22
             clear c22
             by_cases c23:(ji21) < (x7_3.length:Int)
             ·
              rw [if_pos c23] at H
              have c23b0:decide ((ji21) < (x7_3.length:Int))=true:=decide_eq_true c23
              clear c23
              by_cases c24:0≤x42_3
              ·
               rw [if_pos c24] at H
               have c24b0:decide (0≤x42_3)=true:=decide_eq_true c24
               clear c24
               by_cases c25:x42_3 < (x7_3.length:Int)
               ·
                rw [if_pos c25] at H
                have c25b0:decide (x42_3 < (x7_3.length:Int))=true:=decide_eq_true c25
                clear c25
                obtain ⟨y441,hy441⟩:∃ y_:List Int,y_=(x7_3.set (x42_3:Int).toNat (rd x7_3 (ji21))):=⟨_,rfl⟩
                replace H:(prng_Gen_Pick.l1 k3 a1 a2 (y441.set ((ji21):Int).toNat (rd x7_3 x42_3)) a2 (wrap64 (x42_3+1)) t436 t437 t438)=some (r1,r2,r3,r4):=by first|(rw [hy441];with_reducible exact H)|(have H2_:=(Option.bind_some _ _).symm.trans H;rw [hy441];with_reducible exact H2_)|(have H2_:=(Option.bind_some _ _).symm.trans H;with_reducible exact H2_)|with_reducible exact H|(rw [hy441];exact H)|exact H
                have Ny441:=Aside0.mk hy441
                clear hy441
                obtain ⟨y442,hy442⟩:∃ y_:List Int,y_=(y441.set ((ji21):Int).toNat (rd x7_3 x42_3)):=⟨_,rfl⟩
                replace H:(prng_Gen_Pick.l1 k3 a1 a2 y442 a2 (wrap64 (x42_3+1)) t436 t437 t438)=some (r1,r2,r3,r4):=by first|(rw [hy442];with_reducible exact H)|(have H2_:=(Option.bind_some _ _).symm.trans H;rw [hy442];with_reducible exact H2_)|(have H2_:=(Option.bind_some _ _).symm.trans H;with_reducible exact H2_)|with_reducible exact H|(rw [hy442];exact H)|exact H
                have Ny442:=Aside0.mk hy442
                clear hy442
                have H':=Aside0.mk H
                clear H
                try go_wp2_with (first|((with_reducible refine gate_callee (f:=70) rfl ?_);refine goesL_ (some 50) rfl rfl Try.func70 (by kernel_rfl) rfl #[.pointer (some ⟨g,0,none⟩),.int .i64 (wrap64 (a1 - x42_3))] rfl (by (try simp only [List.map_toArray,List.map_cons,List.map_nil]);first|done|rfl|(simp only [List.length_drop,List.length_take];rfl)) ?_;(with_reducible refine (prng_Gen_Below.calls k3 g x1000_3 x1001_3 x1002_3 (wrap64 (a1 - x42_3)) t435 t436 t437 t438 w0 _ ?side1 ?side2 A20.out).mono ?_);(case side1=>repeat (first|(with_reducible first|exact HI0.out|apply IsS130.alloc|apply IsS130.drewN|apply IsS130.drew|apply IsS130.set_0|apply IsS130.set_1|apply IsS130.set_2)|exact HI0.out));(case side2=>repeat (first|(with_reducible first|exact HB.out|apply below_alloc|apply pw_below_drewN|apply below_drew1|refine below_set ?_ (IsS130.ge HI0.out))|exact HB.out));rintro e w28 ⟨rfl,hi,hb,hk⟩;refine ⟨_,rfl,?_⟩;have n0_:=Aside0.mk (Kd.R_mono (Kd.R_keep (IsS130.apart (show IsS130 w0 _ g x1000_3 x1001_3 x1002_3 from by repeat (first|(with_reducible first|exact HI0.out|apply IsS130.alloc|apply IsS130.drewN|apply IsS130.drew|apply IsS130.set_0|apply IsS130.set_1|apply IsS130.set_2)|exact HI0.out)) (by (with_reducible repeat (first|apply Kd.R_alloc|apply Kd.R_drewN|apply Kd.R_drew));exact HO_7.out) (by decide)) hk (fun _ h=>h.2)) (fun _ h=>h.1));have n1_:=Aside0.mk (KeepBut.trans (by repeat (first|(with_reducible first|exact HK.out|apply KeepBut.set_|apply keep_drewN|apply keep_drew|apply keep_alloc)|exact HK.out)) hk (.inl rfl));have n2_:=Aside0.mk (hb);have n3_:=Aside0.mk (hi);clear HO_7;clear HK;clear HB;clear HI0;have HO_7:=n0_;have HK:=n1_;have HB:=n2_;have HI0:=n3_;clear n0_ n1_ n2_ n3_;(try clear hb);(try clear hb2);(try clear hk);(try clear hi)))
                have n0_:=Aside0.mk (Kd.R_drew HO_7.out)
                have n1_:=Aside0.mk (IsS130.drew HI0.out)
                have n2_:=Aside0.mk (keep_drew HK.out)
                have n3_:=Aside0.mk (below_drew1 HB.out)
                clear HO_7
                clear HI0
                clear HK
                clear HB
                have HO_7:=n0_
                have HI0:=n1_
                have HK:=n2_
                have HB:=n3_
                clear n0_ n1_ n2_ n3_
                obtain ⟨Ao30,co30,eo30⟩:=Kd.R_slice HO_7.out
                (first|subst eo30|(injection eo30 with f1_ f2_ f3_;have f4_:=f1_.symm;have f5_:=f3_.symm;clear f1_ f2_ f3_;subst f4_;subst f5_))
                have p439:0≤((ji21):Int):=of_decide_eq_true (by first|(with_reducible assumption)|assumption)
                have q439:(ji21) < (x7_3.length:Int):=of_decide_eq_true (by first|(with_reducible assumption)|assumption)
                obtain ⟨ad439,e439,hx439_0⟩:=Kd.at_int (Kd.R_reads' HO_7.out).2.2 (ji21) p439 q439
                cases e439
                replace p439:=eq_true p439
                replace q439:=eq_true q439
                have p440:0≤(x42_3:Int):=of_decide_eq_true (by first|(with_reducible assumption)|assumption)
                have q440:x42_3 < (x7_3.length:Int):=of_decide_eq_true (by first|(with_reducible assumption)|assumption)
                obtain ⟨ad440,e440,hx440_0⟩:=Kd.at_int (Kd.R_reads' HO_7.out).2.2 x42_3 p440 q440
                obtain rfl:ad439=ad440:=(by injection e440)
                replace p440:=eq_true p440
                replace q440:=eq_true q440
                have p26:0≤(x42_3:Int):=of_decide_eq_true (by first|(with_reducible assumption)|assumption)
                have q26:(x42_3:Int) < ((x7_3.length:Int):Int):=of_decide_eq_true (by first|(with_reducible assumption)|assumption)
                obtain ⟨go26,co26,eo26,gb26,gl26,cl26,HG26⟩:=Kd.R_form HO_7.out (by omega)
                (first|cases eo26|(injection eo26 with ea_ en_ ec_;(first|subst ea_|(injection ea_ with ea_;subst ea_));subst ec_;clear en_))
                have GB26:=Aside0.mk gb26
                have GG26:=Aside0.mk HG26
                clear gb26 gl26 HG26
                (first|simp only [add_plain] at hx439_0|skip)
                (first|simp only [add_plain] at hx440_0|skip)
                obtain ⟨hx26_0,hf26_0⟩:=Kd.R_celln 0 HO_7.out (x42_3:Int) p26 q26
                replace p26:=eq_true p26
                replace q26:=eq_true q26
                have HN0_go26:=Aside0.mk (show g≠go26 from by have h_:=IsS130.own_ne HI0.out HO_7.out (by decide);intro e_;exact h_ (by rw [e_];rfl))
                have HP31:=Kd.R_putn HO_7.out (x42_3:Int) (rd x7_3 (ji21))
                rw [← Ny441.out] at HP31
                have HQ31:=Aside0.mk HP31
                clear HP31
                have p27:0≤((ji21):Int):=of_decide_eq_true (by first|(with_reducible assumption)|assumption)
                have q27:((ji21):Int) < ((x7_3.length:Int):Int):=of_decide_eq_true (by first|(with_reducible assumption)|assumption)
                obtain ⟨hx27_0,hf27_0⟩:=Kd.R_celln 0 HQ31.out ((ji21):Int) p27 q27
                replace p27:=eq_true p27
                replace q27:=eq_true q27
                have HN0_go26:=Aside0.mk (show g≠go26 from by have h_:=IsS130.own_ne HI0.out HO_7.out (by decide);intro e_;exact h_ (by rw [e_];rfl))
                have HP32:=Kd.R_putn HQ31.out ((ji21):Int) (rd x7_3 x42_3)
                rw [← Ny442.out] at HP32
                have HQ32:=Aside0.mk HP32
                clear HP32
                refine start_ (n:=16) (S:=fun w'=>w'.cell? ⟨go26,((ji21)).toNat,none⟩=some (.int .i64 (rd x7_3 (ji21)))∧w'.cell? ⟨go26,(x42_3).toNat,none⟩=some (.int .i64 (rd x7_3 x42_3))) (ds:=[13,15]) #[false,false,false,false,false,false,false,false,false,false,false,false,false,false,false,false] (by kernel_rfl) rfl rfl ⟨hx439_0,hx440_0⟩ (fun hHeld=>?_);refine with_tabW prng_Gen_Pick.tab13 prng_Gen_Pick.bits13 (fun HT_ HW_=>?_)
                generalize w28.drew=w29 at HO_7 HI0 HK HB GG26 HQ31 HQ32 hf26_0 hf27_0 hx26_0 hx27_0 hx439_0 hx440_0 hHeld ⊢
                refine pure_ (i:=0) (N:=some 52) (v:=?_) (a':=?_) #[true,false,false,false,false,false,false,false,false,false,false,false,false,false,false,false] rfl rfl (any_of HT_.out (by kernel_rfl)) (fun _ _ _ h=>h) (Or.inl ⟨by rfl,?_⟩) ?_ ?_
                rotate_left
                ·
                 intro w'
                 go_simp
                 with_reducible rfl
                rotate_left
                ·
                 simp only [Act.put,List.setIfInBounds_toArray,List.set_cons_zero,List.set_cons_succ,i64_w,i32_w]
                 rfl
                refine pure_ (i:=1) (N:=some 53) (v:=?_) (a':=?_) #[true,true,false,false,false,false,false,false,false,false,false,false,false,false,false,false] rfl rfl (any_of HT_.out (by kernel_rfl)) (fun _ _ _ h=>h) (Or.inl ⟨by rfl,?_⟩) ?_ ?_
                rotate_left
                ·
                 intro w'
                 go_simp
                 with_reducible rfl
                rotate_left
                ·
                 simp only [Act.put,List.setIfInBounds_toArray,List.set_cons_zero,List.set_cons_succ,i64_w,i32_w]
                 rfl
                refine pure_ (i:=2) (N:=some 54) (v:=?_) (a':=?_) #[true,true,true,false,false,false,false,false,false,false,false,false,false,false,false,false] rfl rfl (any_of HT_.out (by kernel_rfl)) (fun _ _ _ h=>h) (Or.inl ⟨by rfl,?_⟩) ?_ ?_
                rotate_left
                ·
                 intro w'
                 go_simp
                 with_reducible rfl
                rotate_left
                ·
                 simp only [Act.put,List.setIfInBounds_toArray,List.set_cons_zero,List.set_cons_succ,i64_w,i32_w]
                 rfl
                refine pure_ (i:=3) (N:=some 55) (v:=?_) (a':=?_) #[true,true,true,true,false,false,false,false,false,false,false,false,false,false,false,false] rfl rfl (any_of HT_.out (by kernel_rfl)) (fun _ _ _ h=>h) (Or.inl ⟨by rfl,?_⟩) ?_ ?_
                rotate_left
                ·
                 intro w'
                 go_simp
                 with_reducible rfl
                rotate_left
                ·
                 simp only [Act.put,List.setIfInBounds_toArray,List.set_cons_zero,List.set_cons_succ,i64_w,i32_w]
                 rfl
                refine pure_ (i:=4) (N:=some 56) (v:=?_) (a':=?_) #[true,true,true,true,true,false,false,false,false,false,false,false,false,false,false,false] rfl rfl (any_of HT_.out (by kernel_rfl)) (fun _ _ _ h=>h) (Or.inl ⟨by rfl,?_⟩) ?_ ?_
                rotate_left
                ·
                 intro w'
                 go_simp
                 with_reducible rfl
                rotate_left
                ·
                 simp only [Act.put,List.setIfInBounds_toArray,List.set_cons_zero,List.set_cons_succ,i64_w,i32_w]
                 rfl
                refine pure_ (i:=5) (N:=some 57) (v:=?_) (a':=?_) #[true,true,true,true,true,true,false,false,false,false,false,false,false,false,false,false] rfl rfl (any_of HT_.out (by kernel_rfl)) (fun _ _ _ h=>h) (Or.inl ⟨by rfl,?_⟩) ?_ ?_
                rotate_left
                ·
                 intro w'
                 go_simp
                 with_reducible rfl
                rotate_left
                ·
                 simp only [Act.put,List.setIfInBounds_toArray,List.set_cons_zero,List.set_cons_succ,i64_w,i32_w]
                 rfl
                refine pure_ (i:=6) (N:=some 58) (v:=?_) (a':=?_) #[true,true,true,true,true,true,true,false,false,false,false,false,false,false,false,false] rfl rfl (any_of HT_.out (by kernel_rfl)) (fun _ _ _ h=>h) (Or.inl ⟨by rfl,?_⟩) ?_ ?_
                rotate_left
                ·
                 intro w'
                 go_simp
                 with_reducible rfl
                rotate_left
                ·
                 simp only [Act.put,List.setIfInBounds_toArray,List.set_cons_zero,List.set_cons_succ,i64_w,i32_w]
                 rfl
                refine pure_ (i:=8) (N:=some 60) (v:=?_) (a':=?_) #[true,true,true,true,true,true,true,false,true,false,false,false,false,false,false,false] rfl rfl (any_of HT_.out (by kernel_rfl)) (fun _ _ _ h=>h) (Or.inl ⟨by rfl,?_⟩) ?_ ?_
                rotate_left
                ·
                 intro w'
                 go_simp
                 with_reducible rfl
                rotate_left
                ·
                 simp only [Act.put,List.setIfInBounds_toArray,List.set_cons_zero,List.set_cons_succ,i64_w,i32_w]
                 rfl
                refine pure_ (i:=9) (N:=some 61) (v:=?_) (a':=?_) #[true,true,true,true,true,true,true,false,true,true,false,false,false,false,false,false] rfl rfl (any_of HT_.out (by kernel_rfl)) (fun _ _ _ h=>h) (Or.inl ⟨by rfl,?_⟩) ?_ ?_
                rotate_left
                ·
                 intro w'
                 go_simp
                 with_reducible rfl
                rotate_left
                ·
                 simp only [Act.put,List.setIfInBounds_toArray,List.set_cons_zero,List.set_cons_succ,i64_w,i32_w]
                 rfl
                refine pure_ (i:=10) (N:=some 62) (v:=?_) (a':=?_) #[true,true,true,true,true,true,true,false,true,true,true,false,false,false,false,false] rfl rfl (any_of HT_.out (by kernel_rfl)) (fun _ _ _ h=>h) (Or.inl ⟨by rfl,?_⟩) ?_ ?_
                rotate_left
                ·
                 intro w'
                 go_simp
                 with_reducible rfl
                rotate_left
                ·
                 simp only [Act.put,List.setIfInBounds_toArray,List.set_cons_zero,List.set_cons_succ,i64_w,i32_w]
                 rfl
                refine take_ (i:=7) (N:=some 59) (v:=?_) (a':=?_) #[true,true,true,true,true,true,true,true,true,true,true,false,false,false,false,false] rfl rfl (take_ofW HT_.out HW_.out (by kernel_rfl)) (fun _ _ _ h=>h) (Or.inl ⟨by rfl,?_⟩) hHeld ?_ ?_
                rotate_left
                ·
                 rintro w' ⟨s0,s1⟩
                 go_simp
                 with_reducible rfl
                rotate_left
                ·
                 simp only [Act.put,List.setIfInBounds_toArray,List.set_cons_zero,List.set_cons_succ,i64_w,i32_w]
                 rfl
                refine take_ (i:=11) (N:=some 63) (v:=?_) (a':=?_) #[true,true,true,true,true,true,true,true,true,true,true,true,false,false,false,false] rfl rfl (take_ofW HT_.out HW_.out (by kernel_rfl)) (fun _ _ _ h=>h) (Or.inl ⟨by rfl,?_⟩) hHeld ?_ ?_
                rotate_left
                ·
                 rintro w' ⟨s0,s1⟩
                 go_simp
                 with_reducible rfl
                rotate_left
                ·
                 simp only [Act.put,List.setIfInBounds_toArray,List.set_cons_zero,List.set_cons_succ,i64_w,i32_w]
                 rfl
                refine pure_ (i:=12) (N:=some 64) (v:=?_) (a':=?_) #[true,true,true,true,true,true,true,true,true,true,true,true,true,false,false,false] rfl rfl (any_of HT_.out (by kernel_rfl)) (fun _ _ _ h=>h) (Or.inl ⟨by rfl,?_⟩) ?_ ?_
                rotate_left
                ·
                 intro w'
                 go_simp
                 with_reducible rfl
                rotate_left
                ·
                 simp only [Act.put,List.setIfInBounds_toArray,List.set_cons_zero,List.set_cons_succ,i64_w,i32_w]
                 rfl
                refine last_ (i:=13) (N:=none) #[true,true,true,true,true,true,true,true,true,true,true,true,true,true,false,false] rfl rfl (one_of HT_.out (by kernel_rfl)) (by decide) (fun K hK=>?_)
                refine skip_ (w1:=?_) (by rfl) rfl ?_ ?_
                rotate_left
                ·
                 go_simp
                 rfl
                refine hK.out _ _ ?_
                clear hK K
                refine pure_ (i:=14) (N:=some 65) (v:=?_) (a':=?_) #[true,true,true,true,true,true,true,true,true,true,true,true,true,true,true,false] rfl rfl (any_of HT_.out (by kernel_rfl)) (fun _ _ _ h=>h) (Or.inl ⟨by rfl,?_⟩) ?_ ?_
                rotate_left
                ·
                 intro w'
                 go_simp
                 with_reducible rfl
                rotate_left
                ·
                 simp only [Act.put,List.setIfInBounds_toArray,List.set_cons_zero,List.set_cons_succ,i64_w,i32_w]
                 rfl
                refine last_ (i:=15) (N:=none) #[true,true,true,true,true,true,true,true,true,true,true,true,true,true,true,true] rfl rfl (one_of HT_.out (by kernel_rfl)) (by decide) (fun K hK=>?_)
                refine skip_ (w1:=?_) (by rfl) rfl ?_ ?_
                rotate_left
                ·
                 go_simp
                 rfl
                refine hK.out _ _ ?_
                clear hK K
                refine done_ (done_of HT_.out (by kernel_rfl)) ?_
                try go_wp2
                go_roundg k3
                case measure=>have:=HJ3.out;have:=HK2.out;have:=HK3.out;omega
                case rel=>exact ⟨(y442),(wrap64 (x42_3+1)),(t436),(t437),(t438),(by first|rfl|(simp;done)|(simp [*];done)),H',⟨by have:=HJ3.out;have:=HK2.out;have:=HK3.out;omega⟩,⟨by (with_reducible repeat (first|apply Kd.R_alloc|apply Kd.R_drewN|apply Kd.R_drew));exact HQ32.out⟩,⟨by repeat (first|(with_reducible first|exact HI0.out|apply IsS130.alloc|apply IsS130.drewN|apply IsS130.drew|apply IsS130.set_0|apply IsS130.set_1|apply IsS130.set_2|refine IsS130.far ?_ HN0_go26.out _|refine IsS130.far ?_ HN0_go26.out _)|exact HI0.out)⟩,⟨by repeat (first|(with_reducible first|exact HK.out|apply KeepBut.set_|apply keep_drewN|apply keep_drew|apply keep_alloc|refine keep_far ?_ GB26.out _|refine keep_far ?_ GB26.out _)|exact HK.out)⟩,⟨by repeat (first|(with_reducible first|exact HB.out|apply below_alloc|apply pw_below_drewN|apply below_drew1|refine below_set ?_ (Nat.le_trans HL.out GB26.out)|refine below_set ?_ (Nat.le_trans HL.out GB26.out)|refine below_set ?_ (IsS130.ge HI0.out))|exact HB.out)⟩⟩
               ·
                rw [if_neg c25] at H
                exact absurd H (by simp)
              ·
               rw [if_neg c24] at H
               exact absurd H (by simp)
             ·
              rw [if_neg c23] at H
              exact absurd H (by simp)
            ·
             rw [if_neg c22] at H
             exact absurd H (by simp)
           ·
            rw [if_neg c19] at H
            have c19b0:decide (x42_3 < a2)=false:=decide_eq_false c19
            clear c19
            by_cases c33:0≤a2
            ·
             rw [if_pos c33] at H
             have c33b0:=eq_true c33
             have c33b1:decide (0≤a2)=true:=decide_eq_true c33
             clear c33
             by_cases c34:a2≤(x7_3.length:Int)
             ·
              rw [if_pos c34] at H
              have c34b0:=eq_true c34
              have c34b1:decide (a2≤(x7_3.length:Int))=true:=decide_eq_true c34
              clear c34
              obtain ⟨y443,hy443⟩:∃ y_:List Int,y_=(x7_3.take (a2:Int).toNat):=⟨_,rfl⟩
              replace H:(some (y443,x1000_3,x1001_3,x1002_3))=some (r1,r2,r3,r4):=by first|(rw [hy443];with_reducible exact H)|(have H2_:=(Option.bind_some _ _).symm.trans H;rw [hy443];with_reducible exact H2_)|(have H2_:=(Option.bind_some _ _).symm.trans H;with_reducible exact H2_)|with_reducible exact H|(rw [hy443];exact H)|exact H
              have Ny443:=Aside0.mk hy443
              clear hy443
              simp only [Option.some.injEq,Prod.mk.injEq] at H
              obtain ⟨rfl,rfl,rfl,rfl⟩:=H
              obtain ⟨Ao35,co35,eo35⟩:=Kd.R_slice HO_7.out
              subst eo35
              have q36:(a2:Int)≤((x7_3.length:Int):Int):=of_decide_eq_true (by first|(with_reducible assumption)|assumption)
              obtain ⟨i036,hi036,_,hsz36,_⟩:=info_parts info3
              have hcut36:=cut_to (P:=Try.prog) 77 3 .i64 Try.underlying77 hi036 Ao35 x7_3.length co35 a2 (of_decide_eq_true (by first|(with_reducible assumption)|assumption)) q36 (Kd.R_reads' HO_7.out).2.1
              have qcap:=(show (a2:Int)≤_ from Int.le_trans (of_decide_eq_true (by first|(with_reducible assumption)|assumption)) (Int.ofNat_le.2 (Kd.R_reads' HO_7.out).2.1))
              have hr36:=Kd.R_take (m:=(a2:Int).toNat) HO_7.out (by omega)
              have hy36:y443.length=(a2:Int).toNat:=(by rw [Ny443.out,List.length_take];omega)
              rw [← Ny443.out] at hr36
              rw [← hy36] at hr36 hcut36
              have HYc:=Aside0.mk hy36
              clear hy36 hi036 hsz36 HO_7
              have HO445:=Aside0.mk hr36
              clear hr36
              replace q36:=eq_true q36
              go_wp2
              go_ret
              exact ⟨_,by first|rfl|(simp [errW_none,errW_some] <;> rfl)|(simp [*,errW_none,errW_some] <;> rfl),v_clip HO445.out HYc.out.symm,by repeat (first|(with_reducible first|exact HI0.out|apply IsS130.alloc|apply IsS130.drewN|apply IsS130.drew|apply IsS130.set_0|apply IsS130.set_1|apply IsS130.set_2)|exact HI0.out),by repeat (first|(with_reducible first|exact HB.out|apply below_alloc|apply pw_below_drewN|apply below_drew1|refine below_set ?_ (IsS130.ge HI0.out))|exact HB.out),by repeat (first|(with_reducible first|exact HK.out|apply KeepBut.set_|apply keep_drewN|apply keep_drew|apply keep_alloc)|exact HK.out)⟩
             ·
              rw [if_neg c34] at H
              exact absurd H (by simp)
            ·
             rw [if_neg c33] at H
             exact absurd H (by simp)
     ·
      rw [if_neg c10] at H
      exact absurd H (by simp)
    ·
     rw [if_neg c9] at H
     exact absurd H (by simp)
end Go.Proofs.Ytelcaepenfjloaa.Print
/-! #### Pr59 -/
namespace Go.Proofs.Ytelcaepenfjloaa.Print
open Go.RowKit Go.Proofs.YtelcaepenfjloaaW.PrintWords Go.Proofs.YtelcaepenfjloaaW.PrintLast Go.Proofs.YtelcaepenfjloaaW.PrintMore
attribute [local go_sem] max2_int min2_int max_two min_two max_three min_three max_four min_four
set_option linter.unusedVariables false
set_option linter.unusedSimpArgs false
/-! ### mosaiclaw04_awake: function 59 -/
def mosaiclaw04_awake.f (k:Nat)  : Option (Bool):=(prng_Choose.f k (([4294967295,7]:List Int)) 10).bind fun bt449=>((prng_New.f (⟨#[120]⟩:ByteArray)).bind fun bt451=>((prng_Gen_Pick.f k bt451.1 bt451.2.1 bt451.2.2 1 1).bind fun bt455=>(if bt449.1=7 then (if bt449.2=2 then (if (bt455.1.length:Int)=1 then (if 0 < (bt455.1.length:Int) then (if (rd bt455.1 0)=0 then ((prng_Block.f k (⟨#[120]⟩:ByteArray) 0).bind fun t462=>(some ((t462.size:Int) == 32))) else (some false)) else (none)) else (some false)) else (some false)) else (some false))))
theorem mosaiclaw04_awake.mono:∀ k,LeO (mosaiclaw04_awake.f k ) (mosaiclaw04_awake.f (k+1) ):=by
 intro  k
 unfold mosaiclaw04_awake.f
 repeat' first
   | (with_reducible exact prng_Block.mono _ _ _)
   | (with_reducible exact prng_Choose.mono _ _ _)
   | (with_reducible exact prng_Gen_Pick.mono _ _ _ _ _ _)
   | (with_reducible exact LeO.refl _)
   | (with_reducible exact LeO.none _)
   | (with_reducible refine LeO.ite ?_ ?_)
   | (with_reducible refine LeO.bind ?_ (fun _=>?_))
   | exact prng_Block.mono _ _ _
   | exact prng_Choose.mono _ _ _
   | exact prng_Gen_Pick.mono _ _ _ _ _ _
   | exact LeO.none _
   | refine LeO.ite ?_ ?_
   | refine LeO.bind ?_ (fun _=>?_)
set_option maxHeartbeats 8000000 in
set_option maxRecDepth 100000 in
theorem mosaiclaw04_awake.calls (k:Nat)  (r:Bool) (w:World) (h:mosaiclaw04_awake.f k  = some r) :
  Calls Try.prog 59 #[] w fun e w'=>e=.returned (.bool r)∧Below w.heap.size w w':=by
 have HB:=Aside0.mk (Below.refl w.heap.size w)
 have H:((prng_Choose.f k (([4294967295,7]:List Int)) 10).bind fun bt449=>((prng_New.f (⟨#[120]⟩:ByteArray)).bind fun bt451=>((prng_Gen_Pick.f k bt451.1 bt451.2.1 bt451.2.2 1 1).bind fun bt455=>(if bt449.1=7 then (if bt449.2=2 then (if (bt455.1.length:Int)=1 then (if 0 < (bt455.1.length:Int) then (if (rd bt455.1 0)=0 then ((prng_Block.f k (⟨#[120]⟩:ByteArray) 0).bind fun t462=>(some ((t462.size:Int) == 32))) else (some false)) else (none)) else (some false)) else (some false)) else (some false)))))=some r:=h
 clear h
 obtain ⟨y446,hy446⟩:∃ y_:List Int,y_=(([4294967295,7]:List Int)):=⟨_,rfl⟩
 replace H:((prng_Choose.f k y446 10).bind fun bt449=>((prng_New.f (⟨#[120]⟩:ByteArray)).bind fun bt451=>((prng_Gen_Pick.f k bt451.1 bt451.2.1 bt451.2.2 1 1).bind fun bt455=>(if bt449.1=7 then (if bt449.2=2 then (if (bt455.1.length:Int)=1 then (if 0 < (bt455.1.length:Int) then (if (rd bt455.1 0)=0 then ((prng_Block.f k (⟨#[120]⟩:ByteArray) 0).bind fun t462=>(some ((t462.size:Int) == 32))) else (some false)) else (none)) else (some false)) else (some false)) else (some false)))))=some r:=by first|(rw [hy446];with_reducible exact H)|(have H2_:=(Option.bind_some _ _).symm.trans H;rw [hy446];with_reducible exact H2_)|(have H2_:=(Option.bind_some _ _).symm.trans H;with_reducible exact H2_)|with_reducible exact H|(rw [hy446];exact H)|exact H
 have Ny446:=Aside0.mk hy446
 clear hy446
 replace H:=Option.bind_eq_some_iff.mp H
 obtain ⟨⟨t449,t450⟩,A10,H⟩:=H
 replace H:((prng_New.f (⟨#[120]⟩:ByteArray)).bind fun bt451=>((prng_Gen_Pick.f k bt451.1 bt451.2.1 bt451.2.2 1 1).bind fun bt455=>(if t449=7 then (if t450=2 then (if (bt455.1.length:Int)=1 then (if 0 < (bt455.1.length:Int) then (if (rd bt455.1 0)=0 then ((prng_Block.f k (⟨#[120]⟩:ByteArray) 0).bind fun t462=>(some ((t462.size:Int) == 32))) else (some false)) else (none)) else (some false)) else (some false)) else (some false))))=some r:=H
 have A1:=Aside0.mk A10
 clear A10
 replace H:=Option.bind_eq_some_iff.mp H
 obtain ⟨⟨t451,t452,t453⟩,A20,H⟩:=H
 replace H:((prng_Gen_Pick.f k t451 t452 t453 1 1).bind fun bt455=>(if t449=7 then (if t450=2 then (if (bt455.1.length:Int)=1 then (if 0 < (bt455.1.length:Int) then (if (rd bt455.1 0)=0 then ((prng_Block.f k (⟨#[120]⟩:ByteArray) 0).bind fun t462=>(some ((t462.size:Int) == 32))) else (some false)) else (none)) else (some false)) else (some false)) else (some false)))=some r:=H
 have A2:=Aside0.mk A20
 clear A20
 replace H:=Option.bind_eq_some_iff.mp H
 obtain ⟨⟨t455,t458,t459,t460⟩,A30,H⟩:=H
 replace H:(if t449=7 then (if t450=2 then (if (t455.length:Int)=1 then (if 0 < (t455.length:Int) then (if (rd t455 0)=0 then ((prng_Block.f k (⟨#[120]⟩:ByteArray) 0).bind fun t462=>(some ((t462.size:Int) == 32))) else (some false)) else (none)) else (some false)) else (some false)) else (some false))=some r:=H
 have A3:=Aside0.mk A30
 clear A30
 by_cases c4:t449=7
 ·
  rw [if_pos c4] at H
  have c4b0:(t449 == 7)=true:=beq_iff_eq.mpr c4
  have c4b1:(t449 != 7)=false:=bne_eq_false_iff_eq.mpr c4
  clear c4
  by_cases c5:t450=2
  ·
   rw [if_pos c5] at H
   have c5b0:(t450 == 2)=true:=beq_iff_eq.mpr c5
   have c5b1:(t450 != 2)=false:=bne_eq_false_iff_eq.mpr c5
   clear c5
   by_cases c6:(t455.length:Int)=1
   ·
    rw [if_pos c6] at H
    have c6b0:((t455.length:Int) == 1)=true:=beq_iff_eq.mpr c6
    have c6b1:((t455.length:Int) != 1)=false:=bne_eq_false_iff_eq.mpr c6
    clear c6
    by_cases c7:0 < (t455.length:Int)
    ·
     rw [if_pos c7] at H
     have c7b0:decide (0 < (t455.length:Int))=true:=decide_eq_true c7
     have c7b1:decide (0 < t455.length)=true:=decide_eq_true (by omega)
     clear c7
     by_cases c8:(rd t455 0)=0
     ·
      rw [if_pos c8] at H
      have c8b0:((rd t455 0) == 0)=true:=beq_iff_eq.mpr c8
      have c8b1:((rd t455 0) != 0)=false:=bne_eq_false_iff_eq.mpr c8
      clear c8
      replace H:=Option.bind_eq_some_iff.mp H
      obtain ⟨t462,A90,H⟩:=H
      replace H:(some ((t462.size:Int) == 32))=some r:=H
      have A9:=Aside0.mk A90
      clear A90
      obtain rfl:=Option.some.inj H
      go_enter Try.func59,Try.ntmps59
      go_wp2_with (first|((with_reducible refine gate_dst (N:=6) rfl ?_);(try (refine gate_guard (by rfl) ?_;dsimp only));refine Kd.R_lit (Kd.int .u32) _ 27 ?hg (N:=6) ?hd (xs:=([4294967295,7]:List Int)) (inner:=[.int .u32 4294967295,.int .u32 7]) (ok:=fun _=>True) (okp:=fun _=>True) ?hr ?hp (fun _ hk=>hk) trivial (Below.refl _ _) (Nat.le_refl _) (by simp) ?_;(case hd=>rfl);(case hg=>rfl);(case hr=>first|(go_simp;done)|(go_simp;rfl));(case hp=>exact (Reps.one (show Kd.M (Kd.int .u32) _ _ _ 4294967295 [.int .u32 4294967295] from rfl) (Reps.one (show Kd.M (Kd.int .u32) _ _ _ 7 [.int .u32 7] from rfl) (Reps.none _ _))));intro v447 w10 ho11 hb hg_ hnew_;clear hg_ hnew_;(first|rw [← Ny446.out] at ho11|(simp only [Int.reduceToNat] at ho11;rw [← Ny446.out] at ho11));have n0_:=Aside0.mk (Kd.R_lower ho11 (below_size (by repeat (first|(with_reducible first|exact HB.out|apply below_alloc|apply pw_below_drewN|apply below_drew1)|exact HB.out))));have n1_:=Aside0.mk (below_step (by repeat (first|(with_reducible first|exact HB.out|apply below_alloc|apply pw_below_drewN|apply below_drew1)|exact HB.out)) hb);clear HB;have HO448:=n0_;have HB:=n1_;clear n0_ n1_;clear hb ho11;obtain ⟨Ao12,co12,eo12⟩:=Kd.R_slice HO448.out;subst eo12)|((with_reducible refine gate_callee (f:=60) rfl ?_);refine goesL_ (some 7) rfl rfl Try.func60 (by kernel_rfl) rfl #[.slice Ao12 y446.length co12,.int .i64 10] rfl (by (try simp only [List.map_toArray,List.map_cons,List.map_nil]);first|done|rfl|(simp only [List.length_drop,List.length_take];rfl)) ?_;(with_reducible refine (prng_Choose.calls k _ _ y446 10 t449 t450 _ ?side1 ?side2 A1.out).mono ?_);(case side1=>repeat (first|exact (Kd.R_reads' HO448.out).2.2|(with_reducible refine Kd.C_alloc ?_ _)|(with_reducible refine Kd.C_drewN ?_ _)|(with_reducible refine Kd.C_drew ?_)));(case side2=>exact (Kd.R_reads' HO448.out).2.1);rintro e w13 ⟨rfl,hb⟩;refine ⟨_,rfl,?_⟩;have n0_:=Aside0.mk (Kd.R_below (by (with_reducible repeat (first|apply Kd.R_alloc|apply Kd.R_drewN|apply Kd.R_drew));exact HO448.out) hb);have n1_:=Aside0.mk (below_step (by repeat (first|(with_reducible first|exact HB.out|apply below_alloc|apply pw_below_drewN|apply below_drew1)|exact HB.out)) hb);clear HO448;clear HB;have HO448:=n0_;have HB:=n1_;clear n0_ n1_;(try clear hb);(try clear hb2);(try clear hk);(try clear hi))|((with_reducible refine gate_callee (f:=62) rfl ?_);refine goesL_ (some 10) rfl rfl Try.func62 (by kernel_rfl) rfl #[.string (⟨#[120]⟩:ByteArray)] rfl (by (try simp only [List.map_toArray,List.map_cons,List.map_nil]);first|done|rfl|(simp only [List.length_drop,List.length_take];rfl)) ?_;(with_reducible refine (prng_New.calls (⟨#[120]⟩:ByteArray) t451 t452 t453 w _ ?side1 A2.out).mono ?_);(case side1=>repeat (first|(with_reducible first|exact HB.out|apply below_alloc|apply pw_below_drewN|apply below_drew1)|exact HB.out));rintro e w14 ⟨g454,rfl,hi,hb,hb2⟩;refine ⟨_,rfl,?_⟩;have n0_:=Aside0.mk (Kd.R_below (by (with_reducible repeat (first|apply Kd.R_alloc|apply Kd.R_drewN|apply Kd.R_drew));exact HO448.out) hb2);have n1_:=Aside0.mk (hb);have n2_:=Aside0.mk (hi);clear HO448;clear HB;have HO448:=n0_;have HB:=n1_;have HI454:=n2_;clear n0_ n1_ n2_;(try clear hb);(try clear hb2);(try clear hk);(try clear hi))|((with_reducible refine gate_callee (f:=63) rfl ?_);refine goesL_ (some 14) rfl rfl Try.func63 (by kernel_rfl) rfl #[.pointer (some ⟨g454,0,none⟩),.int .i64 1,.int .i64 1] rfl (by (try simp only [List.map_toArray,List.map_cons,List.map_nil]);first|done|rfl|(simp only [List.length_drop,List.length_take];rfl)) ?_;(with_reducible refine (prng_Gen_Pick.calls k g454 t451 t452 t453 1 1 t455 t458 t459 t460 w _ ?side1 ?side2 A3.out).mono ?_);(case side1=>repeat (first|(with_reducible first|exact HI454.out|apply IsS130.alloc|apply IsS130.drewN|apply IsS130.drew|apply IsS130.set_0|apply IsS130.set_1|apply IsS130.set_2)|exact HI454.out));(case side2=>repeat (first|(with_reducible first|exact HB.out|apply below_alloc|apply pw_below_drewN|apply below_drew1|refine below_set ?_ (IsS130.ge HI454.out))|exact HB.out));rintro e w15 ⟨v456,rfl,ho0,hi,hb,hk⟩;refine ⟨_,rfl,?_⟩;have n0_:=Aside0.mk (Kd.R_mono (Kd.R_keep (IsS130.apart (show IsS130 w _ g454 t451 t452 t453 from by repeat (first|(with_reducible first|exact HI454.out|apply IsS130.alloc|apply IsS130.drewN|apply IsS130.drew|apply IsS130.set_0|apply IsS130.set_1|apply IsS130.set_2)|exact HI454.out)) (by (with_reducible repeat (first|apply Kd.R_alloc|apply Kd.R_drewN|apply Kd.R_drew));exact HO448.out) (by decide)) hk (fun _ h=>h.2)) (fun _ h=>h.1));have n1_:=Aside0.mk (Kd.V_lower (Kd.V_mono (ok':=fun k_=>some k_≠(.slice Ao12 y446.length co12:Value).ownBlock∧k_≠g454) ho0 (fun k_ hk_=>⟨(Kd.fresh' (Kd.R_lt (by (with_reducible repeat (first|apply Kd.R_alloc|apply Kd.R_drewN|apply Kd.R_drew));exact HO448.out)) k_ hk_),(IsS130.fresh (by repeat (first|(with_reducible first|exact HI454.out|apply IsS130.alloc|apply IsS130.drewN|apply IsS130.drew|apply IsS130.set_0|apply IsS130.set_1|apply IsS130.set_2)|exact HI454.out)) k_ hk_)⟩)) (below_size (by repeat (first|(with_reducible first|exact HB.out|apply below_alloc|apply pw_below_drewN|apply below_drew1|refine below_set ?_ (IsS130.ge HI454.out))|exact HB.out))));have n2_:=Aside0.mk (hb);have n3_:=Aside0.mk (hi);clear HO448;clear HB;clear HI454;have HO448:=n0_;have HO457:=n1_;have HB:=n2_;have HI454:=n3_;clear n0_ n1_ n2_ n3_;(try clear hb);(try clear hb2);(try clear hk);(try clear hi);(try clear ho0);obtain ⟨Ao16,co16,eo16⟩:=Kd.V_slice HO457.out;subst eo16;have p461:0≤(0:Int):=(by omega);have q461:0 < (t455.length:Int):=of_decide_eq_true (by first|(with_reducible assumption)|assumption);obtain ⟨ad461,e461,hx461_0⟩:=Kd.at_int (Kd.V_reads' HO457.out).2.2 0 p461 q461;cases e461;have qi461:(0 < t455.length)=True:=eq_true (by omega);(try rw [show ((0:Int)).toNat=0 from rfl] at hx461_0);(try rw [Addr.add_zero'] at hx461_0);replace p461:=eq_true p461;replace q461:=eq_true q461)|(go_at_call 64;(with_reducible refine (prng_Block.calls k (⟨#[120]⟩:ByteArray) 0 t462 _ A9.out).mono ?_);rintro e w17 ⟨rfl,hb⟩;have n0_:=Aside0.mk (Kd.R_below (by (with_reducible repeat (first|apply Kd.R_alloc|apply Kd.R_drewN|apply Kd.R_drew));exact HO448.out) hb);have n1_:=Aside0.mk (Kd.V_below (by (with_reducible repeat (first|apply Kd.V_alloc|apply Kd.V_drewN|apply Kd.V_drew));exact HO457.out) hb);have n2_:=Aside0.mk (IsS130.below (by repeat (first|(with_reducible first|exact HI454.out|apply IsS130.alloc|apply IsS130.drewN|apply IsS130.drew|apply IsS130.set_0|apply IsS130.set_1|apply IsS130.set_2)|exact HI454.out)) hb);have n3_:=Aside0.mk (below_step (by repeat (first|(with_reducible first|exact HB.out|apply below_alloc|apply pw_below_drewN|apply below_drew1|refine below_set ?_ (IsS130.ge HI454.out))|exact HB.out)) hb);clear HO448;clear HO457;clear HI454;clear HB;have HO448:=n0_;have HO457:=n1_;have HI454:=n2_;have HB:=n3_;clear n0_ n1_ n2_ n3_;(try clear hb);(try clear hb2);(try clear hk);(try clear hi)))
      go_ret
      exact ⟨by first|rfl|(simp [errW_none,errW_some] <;> rfl)|(simp [*,errW_none,errW_some] <;> rfl),by repeat (first|(with_reducible first|exact HB.out|apply below_alloc|apply pw_below_drewN|apply below_drew1|refine below_set ?_ (IsS130.ge HI454.out))|exact HB.out)⟩
     ·
      rw [if_neg c8] at H
      have c8b0:((rd t455 0) == 0)=false:=beq_eq_false_iff_ne.mpr c8
      have c8b1:((rd t455 0) != 0)=true:=bne_iff_ne.mpr c8
      obtain rfl:=Option.some.inj H
      go_enter Try.func59,Try.ntmps59
      go_wp2_with (first|((with_reducible refine gate_dst (N:=6) rfl ?_);(try (refine gate_guard (by rfl) ?_;dsimp only));refine Kd.R_lit (Kd.int .u32) _ 27 ?hg (N:=6) ?hd (xs:=([4294967295,7]:List Int)) (inner:=[.int .u32 4294967295,.int .u32 7]) (ok:=fun _=>True) (okp:=fun _=>True) ?hr ?hp (fun _ hk=>hk) trivial (Below.refl _ _) (Nat.le_refl _) (by simp) ?_;(case hd=>rfl);(case hg=>rfl);(case hr=>first|(go_simp;done)|(go_simp;rfl));(case hp=>exact (Reps.one (show Kd.M (Kd.int .u32) _ _ _ 4294967295 [.int .u32 4294967295] from rfl) (Reps.one (show Kd.M (Kd.int .u32) _ _ _ 7 [.int .u32 7] from rfl) (Reps.none _ _))));intro v447 w18 ho19 hb hg_ hnew_;clear hg_ hnew_;(first|rw [← Ny446.out] at ho19|(simp only [Int.reduceToNat] at ho19;rw [← Ny446.out] at ho19));have n0_:=Aside0.mk (Kd.R_lower ho19 (below_size (by repeat (first|(with_reducible first|exact HB.out|apply below_alloc|apply pw_below_drewN|apply below_drew1)|exact HB.out))));have n1_:=Aside0.mk (below_step (by repeat (first|(with_reducible first|exact HB.out|apply below_alloc|apply pw_below_drewN|apply below_drew1)|exact HB.out)) hb);clear HB;have HO448:=n0_;have HB:=n1_;clear n0_ n1_;clear hb ho19;obtain ⟨Ao20,co20,eo20⟩:=Kd.R_slice HO448.out;subst eo20)|((with_reducible refine gate_callee (f:=60) rfl ?_);refine goesL_ (some 7) rfl rfl Try.func60 (by kernel_rfl) rfl #[.slice Ao20 y446.length co20,.int .i64 10] rfl (by (try simp only [List.map_toArray,List.map_cons,List.map_nil]);first|done|rfl|(simp only [List.length_drop,List.length_take];rfl)) ?_;(with_reducible refine (prng_Choose.calls k _ _ y446 10 t449 t450 _ ?side1 ?side2 A1.out).mono ?_);(case side1=>repeat (first|exact (Kd.R_reads' HO448.out).2.2|(with_reducible refine Kd.C_alloc ?_ _)|(with_reducible refine Kd.C_drewN ?_ _)|(with_reducible refine Kd.C_drew ?_)));(case side2=>exact (Kd.R_reads' HO448.out).2.1);rintro e w21 ⟨rfl,hb⟩;refine ⟨_,rfl,?_⟩;have n0_:=Aside0.mk (Kd.R_below (by (with_reducible repeat (first|apply Kd.R_alloc|apply Kd.R_drewN|apply Kd.R_drew));exact HO448.out) hb);have n1_:=Aside0.mk (below_step (by repeat (first|(with_reducible first|exact HB.out|apply below_alloc|apply pw_below_drewN|apply below_drew1)|exact HB.out)) hb);clear HO448;clear HB;have HO448:=n0_;have HB:=n1_;clear n0_ n1_;(try clear hb);(try clear hb2);(try clear hk);(try clear hi))|((with_reducible refine gate_callee (f:=62) rfl ?_);refine goesL_ (some 10) rfl rfl Try.func62 (by kernel_rfl) rfl #[.string (⟨#[120]⟩:ByteArray)] rfl (by (try simp only [List.map_toArray,List.map_cons,List.map_nil]);first|done|rfl|(simp only [List.length_drop,List.length_take];rfl)) ?_;(with_reducible refine (prng_New.calls (⟨#[120]⟩:ByteArray) t451 t452 t453 w _ ?side1 A2.out).mono ?_);(case side1=>repeat (first|(with_reducible first|exact HB.out|apply below_alloc|apply pw_below_drewN|apply below_drew1)|exact HB.out));rintro e w22 ⟨g454,rfl,hi,hb,hb2⟩;refine ⟨_,rfl,?_⟩;have n0_:=Aside0.mk (Kd.R_below (by (with_reducible repeat (first|apply Kd.R_alloc|apply Kd.R_drewN|apply Kd.R_drew));exact HO448.out) hb2);have n1_:=Aside0.mk (hb);have n2_:=Aside0.mk (hi);clear HO448;clear HB;have HO448:=n0_;have HB:=n1_;have HI454:=n2_;clear n0_ n1_ n2_;(try clear hb);(try clear hb2);(try clear hk);(try clear hi))|((with_reducible refine gate_callee (f:=63) rfl ?_);refine goesL_ (some 14) rfl rfl Try.func63 (by kernel_rfl) rfl #[.pointer (some ⟨g454,0,none⟩),.int .i64 1,.int .i64 1] rfl (by (try simp only [List.map_toArray,List.map_cons,List.map_nil]);first|done|rfl|(simp only [List.length_drop,List.length_take];rfl)) ?_;(with_reducible refine (prng_Gen_Pick.calls k g454 t451 t452 t453 1 1 t455 t458 t459 t460 w _ ?side1 ?side2 A3.out).mono ?_);(case side1=>repeat (first|(with_reducible first|exact HI454.out|apply IsS130.alloc|apply IsS130.drewN|apply IsS130.drew|apply IsS130.set_0|apply IsS130.set_1|apply IsS130.set_2)|exact HI454.out));(case side2=>repeat (first|(with_reducible first|exact HB.out|apply below_alloc|apply pw_below_drewN|apply below_drew1|refine below_set ?_ (IsS130.ge HI454.out))|exact HB.out));rintro e w23 ⟨v456,rfl,ho0,hi,hb,hk⟩;refine ⟨_,rfl,?_⟩;have n0_:=Aside0.mk (Kd.R_mono (Kd.R_keep (IsS130.apart (show IsS130 w _ g454 t451 t452 t453 from by repeat (first|(with_reducible first|exact HI454.out|apply IsS130.alloc|apply IsS130.drewN|apply IsS130.drew|apply IsS130.set_0|apply IsS130.set_1|apply IsS130.set_2)|exact HI454.out)) (by (with_reducible repeat (first|apply Kd.R_alloc|apply Kd.R_drewN|apply Kd.R_drew));exact HO448.out) (by decide)) hk (fun _ h=>h.2)) (fun _ h=>h.1));have n1_:=Aside0.mk (Kd.V_lower (Kd.V_mono (ok':=fun k_=>some k_≠(.slice Ao20 y446.length co20:Value).ownBlock∧k_≠g454) ho0 (fun k_ hk_=>⟨(Kd.fresh' (Kd.R_lt (by (with_reducible repeat (first|apply Kd.R_alloc|apply Kd.R_drewN|apply Kd.R_drew));exact HO448.out)) k_ hk_),(IsS130.fresh (by repeat (first|(with_reducible first|exact HI454.out|apply IsS130.alloc|apply IsS130.drewN|apply IsS130.drew|apply IsS130.set_0|apply IsS130.set_1|apply IsS130.set_2)|exact HI454.out)) k_ hk_)⟩)) (below_size (by repeat (first|(with_reducible first|exact HB.out|apply below_alloc|apply pw_below_drewN|apply below_drew1|refine below_set ?_ (IsS130.ge HI454.out))|exact HB.out))));have n2_:=Aside0.mk (hb);have n3_:=Aside0.mk (hi);clear HO448;clear HB;clear HI454;have HO448:=n0_;have HO457:=n1_;have HB:=n2_;have HI454:=n3_;clear n0_ n1_ n2_ n3_;(try clear hb);(try clear hb2);(try clear hk);(try clear hi);(try clear ho0);obtain ⟨Ao24,co24,eo24⟩:=Kd.V_slice HO457.out;subst eo24;have p461:0≤(0:Int):=(by omega);have q461:0 < (t455.length:Int):=of_decide_eq_true (by first|(with_reducible assumption)|assumption);obtain ⟨ad461,e461,hx461_0⟩:=Kd.at_int (Kd.V_reads' HO457.out).2.2 0 p461 q461;cases e461;have qi461:(0 < t455.length)=True:=eq_true (by omega);(try rw [show ((0:Int)).toNat=0 from rfl] at hx461_0);(try rw [Addr.add_zero'] at hx461_0);replace p461:=eq_true p461;replace q461:=eq_true q461))
      go_ret
      exact ⟨by first|rfl|(simp [errW_none,errW_some] <;> rfl)|(simp [*,errW_none,errW_some] <;> rfl),by repeat (first|(with_reducible first|exact HB.out|apply below_alloc|apply pw_below_drewN|apply below_drew1|refine below_set ?_ (IsS130.ge HI454.out))|exact HB.out)⟩
    ·
     rw [if_neg c7] at H
     exact absurd H (by simp)
   ·
    rw [if_neg c6] at H
    have c6b0:((t455.length:Int) == 1)=false:=beq_eq_false_iff_ne.mpr c6
    have c6b1:((t455.length:Int) != 1)=true:=bne_iff_ne.mpr c6
    obtain rfl:=Option.some.inj H
    go_enter Try.func59,Try.ntmps59
    go_wp2_with (first|((with_reducible refine gate_dst (N:=6) rfl ?_);(try (refine gate_guard (by rfl) ?_;dsimp only));refine Kd.R_lit (Kd.int .u32) _ 27 ?hg (N:=6) ?hd (xs:=([4294967295,7]:List Int)) (inner:=[.int .u32 4294967295,.int .u32 7]) (ok:=fun _=>True) (okp:=fun _=>True) ?hr ?hp (fun _ hk=>hk) trivial (Below.refl _ _) (Nat.le_refl _) (by simp) ?_;(case hd=>rfl);(case hg=>rfl);(case hr=>first|(go_simp;done)|(go_simp;rfl));(case hp=>exact (Reps.one (show Kd.M (Kd.int .u32) _ _ _ 4294967295 [.int .u32 4294967295] from rfl) (Reps.one (show Kd.M (Kd.int .u32) _ _ _ 7 [.int .u32 7] from rfl) (Reps.none _ _))));intro v447 w25 ho26 hb hg_ hnew_;clear hg_ hnew_;(first|rw [← Ny446.out] at ho26|(simp only [Int.reduceToNat] at ho26;rw [← Ny446.out] at ho26));have n0_:=Aside0.mk (Kd.R_lower ho26 (below_size (by repeat (first|(with_reducible first|exact HB.out|apply below_alloc|apply pw_below_drewN|apply below_drew1)|exact HB.out))));have n1_:=Aside0.mk (below_step (by repeat (first|(with_reducible first|exact HB.out|apply below_alloc|apply pw_below_drewN|apply below_drew1)|exact HB.out)) hb);clear HB;have HO448:=n0_;have HB:=n1_;clear n0_ n1_;clear hb ho26;obtain ⟨Ao27,co27,eo27⟩:=Kd.R_slice HO448.out;subst eo27)|((with_reducible refine gate_callee (f:=60) rfl ?_);refine goesL_ (some 7) rfl rfl Try.func60 (by kernel_rfl) rfl #[.slice Ao27 y446.length co27,.int .i64 10] rfl (by (try simp only [List.map_toArray,List.map_cons,List.map_nil]);first|done|rfl|(simp only [List.length_drop,List.length_take];rfl)) ?_;(with_reducible refine (prng_Choose.calls k _ _ y446 10 t449 t450 _ ?side1 ?side2 A1.out).mono ?_);(case side1=>repeat (first|exact (Kd.R_reads' HO448.out).2.2|(with_reducible refine Kd.C_alloc ?_ _)|(with_reducible refine Kd.C_drewN ?_ _)|(with_reducible refine Kd.C_drew ?_)));(case side2=>exact (Kd.R_reads' HO448.out).2.1);rintro e w28 ⟨rfl,hb⟩;refine ⟨_,rfl,?_⟩;have n0_:=Aside0.mk (Kd.R_below (by (with_reducible repeat (first|apply Kd.R_alloc|apply Kd.R_drewN|apply Kd.R_drew));exact HO448.out) hb);have n1_:=Aside0.mk (below_step (by repeat (first|(with_reducible first|exact HB.out|apply below_alloc|apply pw_below_drewN|apply below_drew1)|exact HB.out)) hb);clear HO448;clear HB;have HO448:=n0_;have HB:=n1_;clear n0_ n1_;(try clear hb);(try clear hb2);(try clear hk);(try clear hi))|((with_reducible refine gate_callee (f:=62) rfl ?_);refine goesL_ (some 10) rfl rfl Try.func62 (by kernel_rfl) rfl #[.string (⟨#[120]⟩:ByteArray)] rfl (by (try simp only [List.map_toArray,List.map_cons,List.map_nil]);first|done|rfl|(simp only [List.length_drop,List.length_take];rfl)) ?_;(with_reducible refine (prng_New.calls (⟨#[120]⟩:ByteArray) t451 t452 t453 w _ ?side1 A2.out).mono ?_);(case side1=>repeat (first|(with_reducible first|exact HB.out|apply below_alloc|apply pw_below_drewN|apply below_drew1)|exact HB.out));rintro e w29 ⟨g454,rfl,hi,hb,hb2⟩;refine ⟨_,rfl,?_⟩;have n0_:=Aside0.mk (Kd.R_below (by (with_reducible repeat (first|apply Kd.R_alloc|apply Kd.R_drewN|apply Kd.R_drew));exact HO448.out) hb2);have n1_:=Aside0.mk (hb);have n2_:=Aside0.mk (hi);clear HO448;clear HB;have HO448:=n0_;have HB:=n1_;have HI454:=n2_;clear n0_ n1_ n2_;(try clear hb);(try clear hb2);(try clear hk);(try clear hi))|((with_reducible refine gate_callee (f:=63) rfl ?_);refine goesL_ (some 14) rfl rfl Try.func63 (by kernel_rfl) rfl #[.pointer (some ⟨g454,0,none⟩),.int .i64 1,.int .i64 1] rfl (by (try simp only [List.map_toArray,List.map_cons,List.map_nil]);first|done|rfl|(simp only [List.length_drop,List.length_take];rfl)) ?_;(with_reducible refine (prng_Gen_Pick.calls k g454 t451 t452 t453 1 1 t455 t458 t459 t460 w _ ?side1 ?side2 A3.out).mono ?_);(case side1=>repeat (first|(with_reducible first|exact HI454.out|apply IsS130.alloc|apply IsS130.drewN|apply IsS130.drew|apply IsS130.set_0|apply IsS130.set_1|apply IsS130.set_2)|exact HI454.out));(case side2=>repeat (first|(with_reducible first|exact HB.out|apply below_alloc|apply pw_below_drewN|apply below_drew1|refine below_set ?_ (IsS130.ge HI454.out))|exact HB.out));rintro e w30 ⟨v456,rfl,ho0,hi,hb,hk⟩;refine ⟨_,rfl,?_⟩;have n0_:=Aside0.mk (Kd.R_mono (Kd.R_keep (IsS130.apart (show IsS130 w _ g454 t451 t452 t453 from by repeat (first|(with_reducible first|exact HI454.out|apply IsS130.alloc|apply IsS130.drewN|apply IsS130.drew|apply IsS130.set_0|apply IsS130.set_1|apply IsS130.set_2)|exact HI454.out)) (by (with_reducible repeat (first|apply Kd.R_alloc|apply Kd.R_drewN|apply Kd.R_drew));exact HO448.out) (by decide)) hk (fun _ h=>h.2)) (fun _ h=>h.1));have n1_:=Aside0.mk (Kd.V_lower (Kd.V_mono (ok':=fun k_=>some k_≠(.slice Ao27 y446.length co27:Value).ownBlock∧k_≠g454) ho0 (fun k_ hk_=>⟨(Kd.fresh' (Kd.R_lt (by (with_reducible repeat (first|apply Kd.R_alloc|apply Kd.R_drewN|apply Kd.R_drew));exact HO448.out)) k_ hk_),(IsS130.fresh (by repeat (first|(with_reducible first|exact HI454.out|apply IsS130.alloc|apply IsS130.drewN|apply IsS130.drew|apply IsS130.set_0|apply IsS130.set_1|apply IsS130.set_2)|exact HI454.out)) k_ hk_)⟩)) (below_size (by repeat (first|(with_reducible first|exact HB.out|apply below_alloc|apply pw_below_drewN|apply below_drew1|refine below_set ?_ (IsS130.ge HI454.out))|exact HB.out))));have n2_:=Aside0.mk (hb);have n3_:=Aside0.mk (hi);clear HO448;clear HB;clear HI454;have HO448:=n0_;have HO457:=n1_;have HB:=n2_;have HI454:=n3_;clear n0_ n1_ n2_ n3_;(try clear hb);(try clear hb2);(try clear hk);(try clear hi);(try clear ho0);obtain ⟨Ao31,co31,eo31⟩:=Kd.V_slice HO457.out;subst eo31))
    go_ret
    exact ⟨by first|rfl|(simp [errW_none,errW_some] <;> rfl)|(simp [*,errW_none,errW_some] <;> rfl),by repeat (first|(with_reducible first|exact HB.out|apply below_alloc|apply pw_below_drewN|apply below_drew1|refine below_set ?_ (IsS130.ge HI454.out))|exact HB.out)⟩
  ·
   rw [if_neg c5] at H
   have c5b0:(t450 == 2)=false:=beq_eq_false_iff_ne.mpr c5
   have c5b1:(t450 != 2)=true:=bne_iff_ne.mpr c5
   obtain rfl:=Option.some.inj H
   go_enter Try.func59,Try.ntmps59
   go_wp2_with (first|((with_reducible refine gate_dst (N:=6) rfl ?_);(try (refine gate_guard (by rfl) ?_;dsimp only));refine Kd.R_lit (Kd.int .u32) _ 27 ?hg (N:=6) ?hd (xs:=([4294967295,7]:List Int)) (inner:=[.int .u32 4294967295,.int .u32 7]) (ok:=fun _=>True) (okp:=fun _=>True) ?hr ?hp (fun _ hk=>hk) trivial (Below.refl _ _) (Nat.le_refl _) (by simp) ?_;(case hd=>rfl);(case hg=>rfl);(case hr=>first|(go_simp;done)|(go_simp;rfl));(case hp=>exact (Reps.one (show Kd.M (Kd.int .u32) _ _ _ 4294967295 [.int .u32 4294967295] from rfl) (Reps.one (show Kd.M (Kd.int .u32) _ _ _ 7 [.int .u32 7] from rfl) (Reps.none _ _))));intro v447 w32 ho33 hb hg_ hnew_;clear hg_ hnew_;(first|rw [← Ny446.out] at ho33|(simp only [Int.reduceToNat] at ho33;rw [← Ny446.out] at ho33));have n0_:=Aside0.mk (Kd.R_lower ho33 (below_size (by repeat (first|(with_reducible first|exact HB.out|apply below_alloc|apply pw_below_drewN|apply below_drew1)|exact HB.out))));have n1_:=Aside0.mk (below_step (by repeat (first|(with_reducible first|exact HB.out|apply below_alloc|apply pw_below_drewN|apply below_drew1)|exact HB.out)) hb);clear HB;have HO448:=n0_;have HB:=n1_;clear n0_ n1_;clear hb ho33;obtain ⟨Ao34,co34,eo34⟩:=Kd.R_slice HO448.out;subst eo34)|((with_reducible refine gate_callee (f:=60) rfl ?_);refine goesL_ (some 7) rfl rfl Try.func60 (by kernel_rfl) rfl #[.slice Ao34 y446.length co34,.int .i64 10] rfl (by (try simp only [List.map_toArray,List.map_cons,List.map_nil]);first|done|rfl|(simp only [List.length_drop,List.length_take];rfl)) ?_;(with_reducible refine (prng_Choose.calls k _ _ y446 10 t449 t450 _ ?side1 ?side2 A1.out).mono ?_);(case side1=>repeat (first|exact (Kd.R_reads' HO448.out).2.2|(with_reducible refine Kd.C_alloc ?_ _)|(with_reducible refine Kd.C_drewN ?_ _)|(with_reducible refine Kd.C_drew ?_)));(case side2=>exact (Kd.R_reads' HO448.out).2.1);rintro e w35 ⟨rfl,hb⟩;refine ⟨_,rfl,?_⟩;have n0_:=Aside0.mk (Kd.R_below (by (with_reducible repeat (first|apply Kd.R_alloc|apply Kd.R_drewN|apply Kd.R_drew));exact HO448.out) hb);have n1_:=Aside0.mk (below_step (by repeat (first|(with_reducible first|exact HB.out|apply below_alloc|apply pw_below_drewN|apply below_drew1)|exact HB.out)) hb);clear HO448;clear HB;have HO448:=n0_;have HB:=n1_;clear n0_ n1_;(try clear hb);(try clear hb2);(try clear hk);(try clear hi))|((with_reducible refine gate_callee (f:=62) rfl ?_);refine goesL_ (some 10) rfl rfl Try.func62 (by kernel_rfl) rfl #[.string (⟨#[120]⟩:ByteArray)] rfl (by (try simp only [List.map_toArray,List.map_cons,List.map_nil]);first|done|rfl|(simp only [List.length_drop,List.length_take];rfl)) ?_;(with_reducible refine (prng_New.calls (⟨#[120]⟩:ByteArray) t451 t452 t453 w _ ?side1 A2.out).mono ?_);(case side1=>repeat (first|(with_reducible first|exact HB.out|apply below_alloc|apply pw_below_drewN|apply below_drew1)|exact HB.out));rintro e w36 ⟨g454,rfl,hi,hb,hb2⟩;refine ⟨_,rfl,?_⟩;have n0_:=Aside0.mk (Kd.R_below (by (with_reducible repeat (first|apply Kd.R_alloc|apply Kd.R_drewN|apply Kd.R_drew));exact HO448.out) hb2);have n1_:=Aside0.mk (hb);have n2_:=Aside0.mk (hi);clear HO448;clear HB;have HO448:=n0_;have HB:=n1_;have HI454:=n2_;clear n0_ n1_ n2_;(try clear hb);(try clear hb2);(try clear hk);(try clear hi))|((with_reducible refine gate_callee (f:=63) rfl ?_);refine goesL_ (some 14) rfl rfl Try.func63 (by kernel_rfl) rfl #[.pointer (some ⟨g454,0,none⟩),.int .i64 1,.int .i64 1] rfl (by (try simp only [List.map_toArray,List.map_cons,List.map_nil]);first|done|rfl|(simp only [List.length_drop,List.length_take];rfl)) ?_;(with_reducible refine (prng_Gen_Pick.calls k g454 t451 t452 t453 1 1 t455 t458 t459 t460 w _ ?side1 ?side2 A3.out).mono ?_);(case side1=>repeat (first|(with_reducible first|exact HI454.out|apply IsS130.alloc|apply IsS130.drewN|apply IsS130.drew|apply IsS130.set_0|apply IsS130.set_1|apply IsS130.set_2)|exact HI454.out));(case side2=>repeat (first|(with_reducible first|exact HB.out|apply below_alloc|apply pw_below_drewN|apply below_drew1|refine below_set ?_ (IsS130.ge HI454.out))|exact HB.out));rintro e w37 ⟨v456,rfl,ho0,hi,hb,hk⟩;refine ⟨_,rfl,?_⟩;have n0_:=Aside0.mk (Kd.R_mono (Kd.R_keep (IsS130.apart (show IsS130 w _ g454 t451 t452 t453 from by repeat (first|(with_reducible first|exact HI454.out|apply IsS130.alloc|apply IsS130.drewN|apply IsS130.drew|apply IsS130.set_0|apply IsS130.set_1|apply IsS130.set_2)|exact HI454.out)) (by (with_reducible repeat (first|apply Kd.R_alloc|apply Kd.R_drewN|apply Kd.R_drew));exact HO448.out) (by decide)) hk (fun _ h=>h.2)) (fun _ h=>h.1));have n1_:=Aside0.mk (Kd.V_lower (Kd.V_mono (ok':=fun k_=>some k_≠(.slice Ao34 y446.length co34:Value).ownBlock∧k_≠g454) ho0 (fun k_ hk_=>⟨(Kd.fresh' (Kd.R_lt (by (with_reducible repeat (first|apply Kd.R_alloc|apply Kd.R_drewN|apply Kd.R_drew));exact HO448.out)) k_ hk_),(IsS130.fresh (by repeat (first|(with_reducible first|exact HI454.out|apply IsS130.alloc|apply IsS130.drewN|apply IsS130.drew|apply IsS130.set_0|apply IsS130.set_1|apply IsS130.set_2)|exact HI454.out)) k_ hk_)⟩)) (below_size (by repeat (first|(with_reducible first|exact HB.out|apply below_alloc|apply pw_below_drewN|apply below_drew1|refine below_set ?_ (IsS130.ge HI454.out))|exact HB.out))));have n2_:=Aside0.mk (hb);have n3_:=Aside0.mk (hi);clear HO448;clear HB;clear HI454;have HO448:=n0_;have HO457:=n1_;have HB:=n2_;have HI454:=n3_;clear n0_ n1_ n2_ n3_;(try clear hb);(try clear hb2);(try clear hk);(try clear hi);(try clear ho0)))
   go_ret
   exact ⟨by first|rfl|(simp [errW_none,errW_some] <;> rfl)|(simp [*,errW_none,errW_some] <;> rfl),by repeat (first|(with_reducible first|exact HB.out|apply below_alloc|apply pw_below_drewN|apply below_drew1|refine below_set ?_ (IsS130.ge HI454.out))|exact HB.out)⟩
 ·
  rw [if_neg c4] at H
  have c4b0:(t449 == 7)=false:=beq_eq_false_iff_ne.mpr c4
  have c4b1:(t449 != 7)=true:=bne_iff_ne.mpr c4
  obtain rfl:=Option.some.inj H
  go_enter Try.func59,Try.ntmps59
  go_wp2_with (first|((with_reducible refine gate_dst (N:=6) rfl ?_);(try (refine gate_guard (by rfl) ?_;dsimp only));refine Kd.R_lit (Kd.int .u32) _ 27 ?hg (N:=6) ?hd (xs:=([4294967295,7]:List Int)) (inner:=[.int .u32 4294967295,.int .u32 7]) (ok:=fun _=>True) (okp:=fun _=>True) ?hr ?hp (fun _ hk=>hk) trivial (Below.refl _ _) (Nat.le_refl _) (by simp) ?_;(case hd=>rfl);(case hg=>rfl);(case hr=>first|(go_simp;done)|(go_simp;rfl));(case hp=>exact (Reps.one (show Kd.M (Kd.int .u32) _ _ _ 4294967295 [.int .u32 4294967295] from rfl) (Reps.one (show Kd.M (Kd.int .u32) _ _ _ 7 [.int .u32 7] from rfl) (Reps.none _ _))));intro v447 w38 ho39 hb hg_ hnew_;clear hg_ hnew_;(first|rw [← Ny446.out] at ho39|(simp only [Int.reduceToNat] at ho39;rw [← Ny446.out] at ho39));have n0_:=Aside0.mk (Kd.R_lower ho39 (below_size (by repeat (first|(with_reducible first|exact HB.out|apply below_alloc|apply pw_below_drewN|apply below_drew1)|exact HB.out))));have n1_:=Aside0.mk (below_step (by repeat (first|(with_reducible first|exact HB.out|apply below_alloc|apply pw_below_drewN|apply below_drew1)|exact HB.out)) hb);clear HB;have HO448:=n0_;have HB:=n1_;clear n0_ n1_;clear hb ho39;obtain ⟨Ao40,co40,eo40⟩:=Kd.R_slice HO448.out;subst eo40)|((with_reducible refine gate_callee (f:=60) rfl ?_);refine goesL_ (some 7) rfl rfl Try.func60 (by kernel_rfl) rfl #[.slice Ao40 y446.length co40,.int .i64 10] rfl (by (try simp only [List.map_toArray,List.map_cons,List.map_nil]);first|done|rfl|(simp only [List.length_drop,List.length_take];rfl)) ?_;(with_reducible refine (prng_Choose.calls k _ _ y446 10 t449 t450 _ ?side1 ?side2 A1.out).mono ?_);(case side1=>repeat (first|exact (Kd.R_reads' HO448.out).2.2|(with_reducible refine Kd.C_alloc ?_ _)|(with_reducible refine Kd.C_drewN ?_ _)|(with_reducible refine Kd.C_drew ?_)));(case side2=>exact (Kd.R_reads' HO448.out).2.1);rintro e w41 ⟨rfl,hb⟩;refine ⟨_,rfl,?_⟩;have n0_:=Aside0.mk (Kd.R_below (by (with_reducible repeat (first|apply Kd.R_alloc|apply Kd.R_drewN|apply Kd.R_drew));exact HO448.out) hb);have n1_:=Aside0.mk (below_step (by repeat (first|(with_reducible first|exact HB.out|apply below_alloc|apply pw_below_drewN|apply below_drew1)|exact HB.out)) hb);clear HO448;clear HB;have HO448:=n0_;have HB:=n1_;clear n0_ n1_;(try clear hb);(try clear hb2);(try clear hk);(try clear hi))|((with_reducible refine gate_callee (f:=62) rfl ?_);refine goesL_ (some 10) rfl rfl Try.func62 (by kernel_rfl) rfl #[.string (⟨#[120]⟩:ByteArray)] rfl (by (try simp only [List.map_toArray,List.map_cons,List.map_nil]);first|done|rfl|(simp only [List.length_drop,List.length_take];rfl)) ?_;(with_reducible refine (prng_New.calls (⟨#[120]⟩:ByteArray) t451 t452 t453 w _ ?side1 A2.out).mono ?_);(case side1=>repeat (first|(with_reducible first|exact HB.out|apply below_alloc|apply pw_below_drewN|apply below_drew1)|exact HB.out));rintro e w42 ⟨g454,rfl,hi,hb,hb2⟩;refine ⟨_,rfl,?_⟩;have n0_:=Aside0.mk (Kd.R_below (by (with_reducible repeat (first|apply Kd.R_alloc|apply Kd.R_drewN|apply Kd.R_drew));exact HO448.out) hb2);have n1_:=Aside0.mk (hb);have n2_:=Aside0.mk (hi);clear HO448;clear HB;have HO448:=n0_;have HB:=n1_;have HI454:=n2_;clear n0_ n1_ n2_;(try clear hb);(try clear hb2);(try clear hk);(try clear hi))|((with_reducible refine gate_callee (f:=63) rfl ?_);refine goesL_ (some 14) rfl rfl Try.func63 (by kernel_rfl) rfl #[.pointer (some ⟨g454,0,none⟩),.int .i64 1,.int .i64 1] rfl (by (try simp only [List.map_toArray,List.map_cons,List.map_nil]);first|done|rfl|(simp only [List.length_drop,List.length_take];rfl)) ?_;(with_reducible refine (prng_Gen_Pick.calls k g454 t451 t452 t453 1 1 t455 t458 t459 t460 w _ ?side1 ?side2 A3.out).mono ?_);(case side1=>repeat (first|(with_reducible first|exact HI454.out|apply IsS130.alloc|apply IsS130.drewN|apply IsS130.drew|apply IsS130.set_0|apply IsS130.set_1|apply IsS130.set_2)|exact HI454.out));(case side2=>repeat (first|(with_reducible first|exact HB.out|apply below_alloc|apply pw_below_drewN|apply below_drew1|refine below_set ?_ (IsS130.ge HI454.out))|exact HB.out));rintro e w43 ⟨v456,rfl,ho0,hi,hb,hk⟩;refine ⟨_,rfl,?_⟩;have n0_:=Aside0.mk (Kd.R_mono (Kd.R_keep (IsS130.apart (show IsS130 w _ g454 t451 t452 t453 from by repeat (first|(with_reducible first|exact HI454.out|apply IsS130.alloc|apply IsS130.drewN|apply IsS130.drew|apply IsS130.set_0|apply IsS130.set_1|apply IsS130.set_2)|exact HI454.out)) (by (with_reducible repeat (first|apply Kd.R_alloc|apply Kd.R_drewN|apply Kd.R_drew));exact HO448.out) (by decide)) hk (fun _ h=>h.2)) (fun _ h=>h.1));have n1_:=Aside0.mk (Kd.V_lower (Kd.V_mono (ok':=fun k_=>some k_≠(.slice Ao40 y446.length co40:Value).ownBlock∧k_≠g454) ho0 (fun k_ hk_=>⟨(Kd.fresh' (Kd.R_lt (by (with_reducible repeat (first|apply Kd.R_alloc|apply Kd.R_drewN|apply Kd.R_drew));exact HO448.out)) k_ hk_),(IsS130.fresh (by repeat (first|(with_reducible first|exact HI454.out|apply IsS130.alloc|apply IsS130.drewN|apply IsS130.drew|apply IsS130.set_0|apply IsS130.set_1|apply IsS130.set_2)|exact HI454.out)) k_ hk_)⟩)) (below_size (by repeat (first|(with_reducible first|exact HB.out|apply below_alloc|apply pw_below_drewN|apply below_drew1|refine below_set ?_ (IsS130.ge HI454.out))|exact HB.out))));have n2_:=Aside0.mk (hb);have n3_:=Aside0.mk (hi);clear HO448;clear HB;clear HI454;have HO448:=n0_;have HO457:=n1_;have HB:=n2_;have HI454:=n3_;clear n0_ n1_ n2_ n3_;(try clear hb);(try clear hb2);(try clear hk);(try clear hi);(try clear ho0)))
  go_ret
  exact ⟨by first|rfl|(simp [errW_none,errW_some] <;> rfl)|(simp [*,errW_none,errW_some] <;> rfl),by repeat (first|(with_reducible first|exact HB.out|apply below_alloc|apply pw_below_drewN|apply below_drew1|refine below_set ?_ (IsS130.ge HI454.out))|exact HB.out)⟩
end Go.Proofs.Ytelcaepenfjloaa.Print
