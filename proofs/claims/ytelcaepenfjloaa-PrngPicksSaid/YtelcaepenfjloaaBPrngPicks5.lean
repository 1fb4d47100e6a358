/- The proof of the statement PrngPicks of the seat, part 5 of 6: the functions that it reaches, as plain functions, with the walks that show it, and what they come to; the last part ends in the row. No condition beyond the statement's own. -/
import Derived.IntWalk
import Derived.Test.YtelcaepenfjloaaBPrngPicks1
import Derived.Test.YtelcaepenfjloaaBPrngPicks2
import Derived.Test.YtelcaepenfjloaaBPrngPicks4
/-! #### Pr71 -/
namespace Go.Proofs.Ytelcaepenfjloaa.Print
open Go.RowKit Go.Proofs.YtelcaepenfjloaaW.PrintWords Go.Proofs.YtelcaepenfjloaaW.PrintLast Go.Proofs.YtelcaepenfjloaaW.PrintMore
attribute [local go_sem] max2_int min2_int max_two min_two max_three min_three max_four min_four
set_option linter.unusedVariables false
set_option linter.unusedSimpArgs false
/-! ### mosaicref04_Gen_Pick: function 71 -/
mutual
def mosaicref04_Gen_Pick.j0:Nat→Int→Int→Bool→ByteArray→Int→Option (ByteArray×Int×List Int)
 | 0,_,_,_,_,_=>none
 | k+1,x1,x2,x28,x520000,x520001=>if x28=true then (some (x520000,x520001,([]:List Int))) else (mosaicref04_Gen_Pick.l0 k x1 x2 ([]:List Int) 0 x520000 x520001)
def mosaicref04_Gen_Pick.l0:Nat→Int→Int→List Int→Int→ByteArray→Int→Option (ByteArray×Int×List Int)
 | 0,_,_,_,_,_,_=>none
 | k+1,x1,x2,x7,x8,x520000,x520001=>if x8 < x1 then (if x7.length < 17592186044416 then (mosaicref04_Gen_Pick.l0 k x1 x2 (x7 ++ [x8]) (wrap64 (x8+1)) x520000 x520001) else (none)) else (mosaicref04_Gen_Pick.l1 k x1 x2 x7 0 x520000 x520001 ([]:List Int))
def mosaicref04_Gen_Pick.l1:Nat→Int→Int→List Int→Int→ByteArray→Int→List Int→Option (ByteArray×Int×List Int)
 | 0,_,_,_,_,_,_,_=>none
 | k+1,x1,x2,x7,x10,x525000,x525001,x525002=>if x10 < x2 then ((mosaicref04_Gen_Below.f k x525000 x525001 (wrap64 (x1 - x10))).bind fun bt525=>(if 0≤x10 then (if x10 < (x7.length:Int) then (if 0≤(wrap64 (x10+bt525.2.2)) then (if (wrap64 (x10+bt525.2.2)) < (x7.length:Int) then ((some ((x7.set (x10:Int).toNat (rd x7 (wrap64 (x10+bt525.2.2)))).set ((wrap64 (x10+bt525.2.2)):Int).toNat (rd x7 x10):List Int)).bind fun y532=>(if x525002.length < 17592186044416 then (mosaicref04_Gen_Pick.l1 k x1 x2 y532 (wrap64 (x10+1)) bt525.1 bt525.2.1 (x525002 ++ [rd y532 x10])) else (none))) else (none)) else (none)) else (none)) else (none))) else (some (x525000,x525001,x525002))
end
def mosaicref04_Gen_Pick.f (k:Nat) (a0_0:ByteArray) (a0_1:Int) (a1:Int) (a2:Int):Option (ByteArray×Int×List Int):=if a1 < 0 then (mosaicref04_Gen_Pick.j0 k a1 a2 true a0_0 a0_1) else (if a1 > 4096 then (mosaicref04_Gen_Pick.j0 k a1 a2 true a0_0 a0_1) else (if a2 < 0 then (mosaicref04_Gen_Pick.j0 k a1 a2 true a0_0 a0_1) else (mosaicref04_Gen_Pick.j0 k a1 a2 (decide (a2 > a1)) a0_0 a0_1)))
theorem mosaicref04_Gen_Pick.mono_l:∀ k,(∀ y0 y1 y2 y3 y4,LeO (mosaicref04_Gen_Pick.j0 k y0 y1 y2 y3 y4) (mosaicref04_Gen_Pick.j0 (k+1) y0 y1 y2 y3 y4))∧(∀ y0 y1 y2 y3 y4 y5,LeO (mosaicref04_Gen_Pick.l0 k y0 y1 y2 y3 y4 y5) (mosaicref04_Gen_Pick.l0 (k+1) y0 y1 y2 y3 y4 y5))∧(∀ y0 y1 y2 y3 y4 y5 y6,LeO (mosaicref04_Gen_Pick.l1 k y0 y1 y2 y3 y4 y5 y6) (mosaicref04_Gen_Pick.l1 (k+1) y0 y1 y2 y3 y4 y5 y6))
 | 0=>⟨fun _ _ _ _ _ r h=>by simp [mosaicref04_Gen_Pick.j0] at h,fun _ _ _ _ _ _ r h=>by simp [mosaicref04_Gen_Pick.l0] at h,fun _ _ _ _ _ _ _ r h=>by simp [mosaicref04_Gen_Pick.l1] at h⟩
 | k+1=>by
  obtain ⟨ih0,ih1,ih2⟩:=mosaicref04_Gen_Pick.mono_l k
  refine ⟨?_,?_,?_⟩
  ·
   intro y0 y1 y2 y3 y4
   unfold mosaicref04_Gen_Pick.j0
   repeat' first
   | (with_reducible exact ih0 _ _ _ _ _)
   | (with_reducible exact ih1 _ _ _ _ _ _)
   | (with_reducible exact ih2 _ _ _ _ _ _ _)
   | (with_reducible exact mosaicref04_Gen_Below.mono _ _ _ _)
   | (with_reducible exact LeO.refl _)
   | (with_reducible exact LeO.none _)
   | (with_reducible refine LeO.ite ?_ ?_)
   | (with_reducible refine LeO.bind ?_ (fun _=>?_))
   | exact ih0 _ _ _ _ _
   | exact ih1 _ _ _ _ _ _
   | exact ih2 _ _ _ _ _ _ _
   | exact mosaicref04_Gen_Below.mono _ _ _ _
   | exact LeO.none _
   | refine LeO.ite ?_ ?_
   | refine LeO.bind ?_ (fun _=>?_)
  ·
   intro y0 y1 y2 y3 y4 y5
   unfold mosaicref04_Gen_Pick.l0
   repeat' first
   | (with_reducible exact ih0 _ _ _ _ _)
   | (with_reducible exact ih1 _ _ _ _ _ _)
   | (with_reducible exact ih2 _ _ _ _ _ _ _)
   | (with_reducible exact mosaicref04_Gen_Below.mono _ _ _ _)
   | (with_reducible exact LeO.refl _)
   | (with_reducible exact LeO.none _)
   | (with_reducible refine LeO.ite ?_ ?_)
   | (with_reducible refine LeO.bind ?_ (fun _=>?_))
   | exact ih0 _ _ _ _ _
   | exact ih1 _ _ _ _ _ _
   | exact ih2 _ _ _ _ _ _ _
   | exact mosaicref04_Gen_Below.mono _ _ _ _
   | exact LeO.none _
   | refine LeO.ite ?_ ?_
   | refine LeO.bind ?_ (fun _=>?_)
  ·
   intro y0 y1 y2 y3 y4 y5 y6
   unfold mosaicref04_Gen_Pick.l1
   repeat' first
   | (with_reducible exact ih0 _ _ _ _ _)
   | (with_reducible exact ih1 _ _ _ _ _ _)
   | (with_reducible exact ih2 _ _ _ _ _ _ _)
   | (with_reducible exact mosaicref04_Gen_Below.mono _ _ _ _)
   | (with_reducible exact LeO.refl _)
   | (with_reducible exact LeO.none _)
   | (with_reducible refine LeO.ite ?_ ?_)
   | (with_reducible refine LeO.bind ?_ (fun _=>?_))
   | exact ih0 _ _ _ _ _
   | exact ih1 _ _ _ _ _ _
   | exact ih2 _ _ _ _ _ _ _
   | exact mosaicref04_Gen_Below.mono _ _ _ _
   | exact LeO.none _
   | refine LeO.ite ?_ ?_
   | refine LeO.bind ?_ (fun _=>?_)
theorem mosaicref04_Gen_Pick.mono:∀ a0 a1 a2 a3 k,LeO (mosaicref04_Gen_Pick.f k a0 a1 a2 a3) (mosaicref04_Gen_Pick.f (k+1) a0 a1 a2 a3):=by
 intro a0 a1 a2 a3 k
 obtain ⟨ih0,ih1,ih2⟩:=mosaicref04_Gen_Pick.mono_l k
 unfold mosaicref04_Gen_Pick.f
 repeat' first
   | (with_reducible exact ih0 _ _ _ _ _)
   | (with_reducible exact ih1 _ _ _ _ _ _)
   | (with_reducible exact ih2 _ _ _ _ _ _ _)
   | (with_reducible exact mosaicref04_Gen_Below.mono _ _ _ _)
   | (with_reducible exact LeO.refl _)
   | (with_reducible exact LeO.none _)
   | (with_reducible refine LeO.ite ?_ ?_)
   | (with_reducible refine LeO.bind ?_ (fun _=>?_))
   | exact ih0 _ _ _ _ _
   | exact ih1 _ _ _ _ _ _
   | exact ih2 _ _ _ _ _ _ _
   | exact mosaicref04_Gen_Below.mono _ _ _ _
   | exact LeO.none _
   | refine LeO.ite ?_ ?_
   | refine LeO.bind ?_ (fun _=>?_)
def mosaicref04_Gen_Pick.T18:Bool×List (List Nat×List Nat):=(true,[([],[]),([0],[0]),([],[]),([],[]),([2,3],[2,3]),([4],[4]),([5],[5]),([1,6],[1,6]),([0,1,2,3,4,5,6,7],[]),([8,7,7,0,1,2,3,4,5,6,7],[7,8])])
def mosaicref04_Gen_Pick.B18:List Nat:=[0,1,0,0,12,28,60,127,255,511]
theorem mosaicref04_Gen_Pick.tab18:rtab .any (opsOf Try.f71 18)=mosaicref04_Gen_Pick.T18:=by kernel_rfl
theorem mosaicref04_Gen_Pick.bits18:waitsOk mosaicref04_Gen_Pick.T18.2 mosaicref04_Gen_Pick.B18=true:=by kernel_rfl
set_option maxHeartbeats 8000000 in
set_option maxRecDepth 100000 in
theorem mosaicref04_Gen_Pick.calls (k:Nat) (a0_0:ByteArray) (a0_1:Int) (a1:Int) (a2:Int) (r1:ByteArray) (r2:Int) (r3:List Int) (w:World) (h:mosaicref04_Gen_Pick.f k a0_0 a0_1 a1 a2=some (r1,r2,r3)) :
  Calls Try.prog 71 #[.agg #[.string a0_0,.int .i64 a0_1],.int .i64 a1,.int .i64 a2] w fun e w'=>∃ v2_:Value,e=.returned (.agg #[.string r1,.int .i64 r2,v2_])∧Kd.R (Kd.int .i64) 3 w' w.heap.size (fun _=>True) v2_ r3∧Below w.heap.size w w':=by
 have hu83:=Try.underlying83
 have hu94:=Try.underlying94
 have hu85:=Try.underlying85
 have HB:=Aside0.mk (Below.refl w.heap.size w)
 have H:(if a1 < 0 then (mosaicref04_Gen_Pick.j0 k a1 a2 true a0_0 a0_1) else (if a1 > 4096 then (mosaicref04_Gen_Pick.j0 k a1 a2 true a0_0 a0_1) else (if a2 < 0 then (mosaicref04_Gen_Pick.j0 k a1 a2 true a0_0 a0_1) else (mosaicref04_Gen_Pick.j0 k a1 a2 (decide (a2 > a1)) a0_0 a0_1))))=some (r1,r2,r3):=h
 clear h
 have HC4:=Aside0.mk H
 clear H
 go_enter Try.func71,Try.ntmps71
 go_upto_region 1 with (first|((with_reducible refine gate_dst (N:=3) rfl ?_);refine box_event ?hg (N:=3) ?hd (cs:=#[.string a0_0,.int .i64 a0_1]) (t:=83) ?hr ?_;(case hd=>rfl);(case hg=>rfl);(case hr=>first|(go_simp;done)|(go_simp;rfl));intro gb519 hg w5 hbox hb;have n0_:=Aside0.mk (below_step (by repeat (first|(with_reducible first|exact HB.out|apply below_alloc|apply pw_below_drewN|apply below_drew1)|exact HB.out)) hb);have n1_:=Aside0.mk (hbox);have n2_:=Aside0.mk ((by rw [hg];exact (below_size (by repeat (first|(with_reducible first|exact HB.out|apply below_alloc|apply pw_below_drewN|apply below_drew1)|exact HB.out))):w.heap.size≤gb519));have n3_:=Aside0.mk ((by rw [hg];exact (below_size (by repeat (first|(with_reducible first|exact HB.out|apply below_alloc|apply pw_below_drewN|apply below_drew1)|exact HB.out))):w.heap.size≤gb519));clear HB;have HB:=n0_;have BK519:=n1_;have GW519:=n2_;have GE519:=n3_;clear n0_ n1_ n2_ n3_;clear hb hbox hg)|((with_reducible refine gate_dst (N:=6) rfl ?_);refine box_event ?hg (N:=6) ?hd (cs:=#[.string (⟨#[]⟩:ByteArray),.int .i64 0,.slice none 0 0]) (t:=94) ?hr ?_;(case hd=>rfl);(case hg=>rfl);(case hr=>first|(go_simp;done)|(go_simp;rfl));intro gb520 hg w6 hbox hb;have n0_:=Aside0.mk (blk_below (g:=gb519) (o:=.cells #[.string a0_0,.int .i64 a0_1] 83 (0,0)) (by (with_reducible repeat (first|refine blk_drewN ?_ _|refine blk_drew ?_|refine blk_alloc ?_ _));exact BK519.out) hb);have n1_:=Aside0.mk (below_step (by repeat (first|(with_reducible first|exact HB.out|apply below_alloc|apply pw_below_drewN|apply below_drew1|refine below_set ?_ GE519.out)|exact HB.out)) hb);have n2_:=Aside0.mk (hbox);have n3_:=Aside0.mk ((by rw [hg];exact (below_size (by repeat (first|(with_reducible first|exact HB.out|apply below_alloc|apply pw_below_drewN|apply below_drew1|refine below_set ?_ GE519.out)|exact HB.out))):w.heap.size≤gb520));have n4_:=Aside0.mk ((by rw [hg];exact (below_size (by repeat (first|(with_reducible first|exact HB.out|apply below_alloc|apply pw_below_drewN|apply below_drew1|refine below_set ?_ GE519.out)|exact HB.out))):w.heap.size≤gb520));have n5_:=Aside0.mk ((by rw [hg];exact Nat.ne_of_lt (blk_lt (g:=gb519) (o:=.cells #[.string a0_0,.int .i64 a0_1] 83 (0,0)) (by (with_reducible repeat (first|refine blk_drewN ?_ _|refine blk_drew ?_|refine blk_alloc ?_ _));exact BK519.out)):gb519≠gb520));have n6_:=Aside0.mk ((by rw [hg];exact Nat.ne_of_gt (blk_lt (g:=gb519) (o:=.cells #[.string a0_0,.int .i64 a0_1] 83 (0,0)) (by (with_reducible repeat (first|refine blk_drewN ?_ _|refine blk_drew ?_|refine blk_alloc ?_ _));exact BK519.out)):gb520≠gb519));clear BK519;clear HB;have BK519:=n0_;have HB:=n1_;have BK520:=n2_;have GW520:=n3_;have GE520:=n4_;have NB519_520:=n5_;have NB520_519:=n6_;clear n0_ n1_ n2_ n3_ n4_ n5_ n6_;clear hb hbox hg))
 (try simp only [Act.put,List.setIfInBounds_toArray,List.set_cons_zero,List.set_cons_succ])
 go_cut [28] (fun v28 wc=>∃ (kq:Nat) (x28_3:Bool),v28=.bool x28_3∧Aside0 (mosaicref04_Gen_Pick.j0 kq a1 a2 x28_3 a0_0 a0_1=some (r1,r2,r3))∧Aside0 (kq≤k)∧Aside0 (wc.heap[gb519]?=some (.cells #[.string a0_0,.int .i64 a0_1] 83 (0,0)))∧Aside0 (wc.heap[gb520]?=some (.cells #[.string (⟨#[]⟩:ByteArray),.int .i64 0,(.slice none 0 0)] 94 (0,0)))∧Aside0 (Below w.heap.size w wc))
 case first =>
  have H:=HC4.out
  clear HC4
  by_cases c7:a1 < 0
  ·
   rw [if_pos c7] at H
   have c7b0:decide (a1 < 0)=true:=decide_eq_true c7
   clear c7
   (first|rw [c7b0]|(simp only [i64_w,i32_w];rw [c7b0])|skip)
   have H':=Aside0.mk H
   clear H
   go_wp2
   go_meet
   case rel=>exact ⟨_,(true),(by first|rfl|(simp;done)|(simp [*];done)),H',⟨by first|omega|exact Nat.le_refl _⟩,⟨by (with_reducible repeat (first|refine blk_drewN ?_ _|refine blk_drew ?_|refine blk_alloc ?_ _));exact BK519.out⟩,⟨by (with_reducible repeat (first|refine blk_drewN ?_ _|refine blk_drew ?_|refine blk_alloc ?_ _));exact BK520.out⟩,⟨by repeat (first|(with_reducible first|exact HB.out|apply below_alloc|apply pw_below_drewN|apply below_drew1|refine below_set ?_ GE519.out|refine below_set ?_ GE520.out)|exact HB.out)⟩⟩
  ·
   rw [if_neg c7] at H
   have c7b0:decide (a1 < 0)=false:=decide_eq_false c7
   clear c7
   (first|rw [c7b0]|(simp only [i64_w,i32_w];rw [c7b0])|skip)
   by_cases c8:a1 > 4096
   ·
    rw [if_pos c8] at H
    have c8b0:decide (4096 < a1)=true:=decide_eq_true c8
    clear c8
    have H':=Aside0.mk H
    clear H
    go_wp2
    go_meet
    case rel=>exact ⟨_,(true),(by first|rfl|(simp;done)|(simp [*];done)),H',⟨by first|omega|exact Nat.le_refl _⟩,⟨by (with_reducible repeat (first|refine blk_drewN ?_ _|refine blk_drew ?_|refine blk_alloc ?_ _));exact BK519.out⟩,⟨by (with_reducible repeat (first|refine blk_drewN ?_ _|refine blk_drew ?_|refine blk_alloc ?_ _));exact BK520.out⟩,⟨by repeat (first|(with_reducible first|exact HB.out|apply below_alloc|apply pw_below_drewN|apply below_drew1|refine below_set ?_ GE519.out|refine below_set ?_ GE520.out)|exact HB.out)⟩⟩
   ·
    rw [if_neg c8] at H
    have c8b0:decide (4096 < a1)=false:=decide_eq_false c8
    clear c8
    by_cases c9:a2 < 0
    ·
     rw [if_pos c9] at H
     have c9b0:decide (a2 < 0)=true:=decide_eq_true c9
     clear c9
     have H':=Aside0.mk H
     clear H
     go_wp2
     go_meet
     case rel=>exact ⟨_,(true),(by first|rfl|(simp;done)|(simp [*];done)),H',⟨by first|omega|exact Nat.le_refl _⟩,⟨by (with_reducible repeat (first|refine blk_drewN ?_ _|refine blk_drew ?_|refine blk_alloc ?_ _));exact BK519.out⟩,⟨by (with_reducible repeat (first|refine blk_drewN ?_ _|refine blk_drew ?_|refine blk_alloc ?_ _));exact BK520.out⟩,⟨by repeat (first|(with_reducible first|exact HB.out|apply below_alloc|apply pw_below_drewN|apply below_drew1|refine below_set ?_ GE519.out|refine below_set ?_ GE520.out)|exact HB.out)⟩⟩
    ·
     rw [if_neg c9] at H
     have c9b0:decide (a2 < 0)=false:=decide_eq_false c9
     clear c9
     have H':=Aside0.mk H
     clear H
     go_wp2
     go_meet
     case rel=>exact ⟨_,(decide (a2 > a1)),(by first|rfl|(simp;done)|(simp [*];done)),H',⟨by first|omega|exact Nat.le_refl _⟩,⟨by (with_reducible repeat (first|refine blk_drewN ?_ _|refine blk_drew ?_|refine blk_alloc ?_ _));exact BK519.out⟩,⟨by (with_reducible repeat (first|refine blk_drewN ?_ _|refine blk_drew ?_|refine blk_alloc ?_ _));exact BK520.out⟩,⟨by repeat (first|(with_reducible first|exact HB.out|apply below_alloc|apply pw_below_drewN|apply below_drew1|refine below_set ?_ GE519.out|refine below_set ?_ GE520.out)|exact HB.out)⟩⟩
 case rest =>
  clear HC4
  try clear p2
  try clear c7
  try clear c7b0
  try clear c8
  try clear c8b0
  try clear c9
  try clear c9b0
  obtain ⟨kq,x28_3,rfl,HA,HJ3,BK519,BK520,HB⟩:=hcut
  cases kq with
  | zero=>exact absurd HA.out (by simp [mosaicref04_Gen_Pick.j0])
  | succ kj3 =>
   have H:=HA.out
   clear HA
   simp only [mosaicref04_Gen_Pick.j0] at H
   by_cases c10:x28_3=true
   ·
    subst c10
    have H1:(some (a0_0,a0_1,([]:List Int)))=some (r1,r2,r3):=by rw [if_pos rfl] at H;exact H
    clear H
    have H:=H1
    clear H1
    simp only [Option.some.injEq,Prod.mk.injEq] at H
    obtain ⟨rfl,rfl,rfl⟩:=H
    have hnb11:=NB519_520.out
    have hnc11:=NB520_519.out
    have hcz12_0:wc.cell? ⟨gb519,0,none⟩=some (.string a0_0):=(blk_cell BK519.out 0).trans rfl
    have hcz12_1:wc.cell? ⟨gb519,1,none⟩=some (.int .i64 a0_1):=(blk_cell BK519.out 1).trans rfl
    have hfz12_0:=blk_frozen BK519.out 0
    have hfz12_1:=blk_frozen BK519.out 1
    have hcz13_0:wc.cell? ⟨gb520,0,none⟩=some (.string (⟨#[]⟩:ByteArray)):=(blk_cell BK520.out 0).trans rfl
    have hcz13_1:wc.cell? ⟨gb520,1,none⟩=some (.int .i64 0):=(blk_cell BK520.out 1).trans rfl
    have hcz13_2:wc.cell? ⟨gb520,2,none⟩=some (.slice none 0 0):=(blk_cell BK520.out 2).trans rfl
    have hfz13_0:=blk_frozen BK520.out 0
    have hfz13_1:=blk_frozen BK520.out 1
    have hfz13_2:=blk_frozen BK520.out 2
    go_wp2
    refine bodyPost_ret (results_cell_row rfl _ _ gb520 94 #[.string a0_0,.int .i64 a0_1,.slice none 0 0] (0,0) _ rfl (by (with_reducible repeat (first|refine blk_drewN ?_ _|refine blk_drew ?_|refine blk_alloc ?_ _));refine blk_put (cs:=#[.string a0_0,.int .i64 a0_1,.slice none 0 0]) ?_ 2 _ rfl;(with_reducible repeat (first|refine blk_drewN ?_ _|refine blk_drew ?_|refine blk_alloc ?_ _));refine blk_put (cs:=#[.string a0_0,.int .i64 0,.slice none 0 0]) ?_ 1 _ rfl;(with_reducible repeat (first|refine blk_drewN ?_ _|refine blk_drew ?_|refine blk_alloc ?_ _));refine blk_put (cs:=#[.string (⟨#[]⟩:ByteArray),.int .i64 0,.slice none 0 0]) ?_ 0 _ rfl;(with_reducible repeat (first|refine blk_drewN ?_ _|refine blk_drew ?_|refine blk_alloc ?_ _));exact BK520.out) Try.underlying94 rfl (by kernel_rfl)) rfl ?_
    exact ⟨_,by first|rfl|(simp [errW_none,errW_some] <;> rfl)|(simp [*,errW_none,errW_some] <;> rfl),by first|exact Kd.R_nil _ _ _ _ _|exact Kd.N_nil _ _ _ _ _|exact Kd.V_nil _ _ _ _ _|exact Kd.Q_nil _ _ _ _ _|exact Kd.S_nil _ _ _ _ _,by repeat (first|(with_reducible first|exact HB.out|apply below_alloc|apply pw_below_drewN|apply below_drew1|refine below_set ?_ GE519.out|refine below_set ?_ GE520.out)|exact HB.out)⟩
   ·
    replace c10:=Bool.eq_false_iff.mpr c10
    subst c10
    have H1:(mosaicref04_Gen_Pick.l0 kj3 a1 a2 ([]:List Int) 0 a0_0 a0_1)=some (r1,r2,r3):=by rw [if_neg (show ¬ (false=true) by decide)] at H;exact H
    clear H
    have H:=H1
    clear H1
    have H':=Aside0.mk H
    clear H
    go_wp2
    go_loopg [7,8] kj3 (fun kq v7 v8 w'=>∃ (x7_2:List Int) (x8_2:Int),v8=.int .i64 x8_2∧Aside0 (mosaicref04_Gen_Pick.l0 kq a1 a2 x7_2 x8_2 a0_0 a0_1=some (r1,r2,r3))∧Aside0 (kq≤kj3)∧Aside0 (Kd.R (Kd.int .i64) 3 w' w.heap.size (fun _=>True) v7 x7_2)∧Aside0 (w'.heap[gb519]?=some (.cells #[.string a0_0,.int .i64 a0_1] 83 (0,0)))∧Aside0 (w'.heap[gb520]?=some (.cells #[.string (⟨#[]⟩:ByteArray),.int .i64 0,(.slice none 0 0)] 94 (0,0)))∧Aside0 (Below w.heap.size w w'))
    case atStart=>exact ⟨(([]:List Int)),(0),(by first|rfl|(simp;done)|(simp [*];done)),H',⟨Nat.le_refl _⟩,⟨by first|exact Kd.R_nil _ _ _ _ _|exact Kd.N_nil _ _ _ _ _|exact Kd.V_nil _ _ _ _ _|exact Kd.Q_nil _ _ _ _ _|exact Kd.S_nil _ _ _ _ _⟩,⟨by (with_reducible repeat (first|refine blk_drewN ?_ _|refine blk_drew ?_|refine blk_alloc ?_ _));exact BK519.out⟩,⟨by (with_reducible repeat (first|refine blk_drewN ?_ _|refine blk_drew ?_|refine blk_alloc ?_ _));exact BK520.out⟩,⟨by repeat (first|(with_reducible first|exact HB.out|apply below_alloc|apply pw_below_drewN|apply below_drew1|refine below_set ?_ GE519.out|refine below_set ?_ GE520.out)|exact HB.out)⟩⟩
    case round =>
     clear H'
     try clear c1
     try clear p2
     try clear c7
     try clear c7b0
     try clear c8
     try clear c8b0
     try clear c9
     try clear c9b0
     try clear c10
     try clear c11
     try clear hcz12_0
     try clear hcz12_1
     try clear hcz13_0
     try clear hcz13_1
     try clear hcz13_2
     try clear hfz12_0
     try clear hfz12_1
     try clear hfz13_0
     try clear hfz13_1
     try clear hfz13_2
     try clear p2
     obtain ⟨x7_2,x8_2,rfl,HA,HK2,HO_7,BK519,BK520,HB⟩:=hrel
     cases gk with
     | zero=>exact absurd HA.out (by simp [mosaicref04_Gen_Pick.l0])
     | succ k2 =>
      have H:=HA.out
      clear HA
      simp only [mosaicref04_Gen_Pick.l0] at H
      by_cases c14:x8_2 < a1
      ·
       rw [if_pos c14] at H
       have c14b0:decide (x8_2 < a1)=true:=decide_eq_true c14
       clear c14
       by_cases c15:x7_2.length < 17592186044416
       ·
        rw [if_pos c15] at H
        have LMc15:=Aside0.mk c15
        clear c15
        obtain ⟨y521,hy521⟩:∃ y_:List Int,y_=(x7_2 ++ [x8_2]):=⟨_,rfl⟩
        replace H:(mosaicref04_Gen_Pick.l0 k2 a1 a2 y521 (wrap64 (x8_2+1)) a0_0 a0_1)=some (r1,r2,r3):=by first|(rw [hy521];with_reducible exact H)|(have H2_:=(Option.bind_some _ _).symm.trans H;rw [hy521];with_reducible exact H2_)|(have H2_:=(Option.bind_some _ _).symm.trans H;with_reducible exact H2_)|with_reducible exact H|(rw [hy521];exact H)|exact H
        have Ny521:=Aside0.mk hy521
        clear hy521
        have H':=Aside0.mk H
        clear H
        go_wp2_with (first|((with_reducible refine gate_builtin (b:=.append) (xs:=#[.tmp 36,.tmp 38]) rfl ?_);at_builtin;refine Kd.R_append (Kd.int .i64) (w0:=w) w.heap.size rfl (.tmp 36) (.tmp 38) 77 3 (.int .i64 0) 8 rfl Try.underlying77 info3 rfl (by decide) (by omega) u7 x7_2 x8_2 [.int .i64 x8_2] (fun _=>True) (fun _=>False) rfl rfl ?aP (fun _ hk=>hk.elim) ?aF ?aO ?aB ?aS ?aL ?_;(case aP=>exact rfl);(case aB=>exact (by repeat (first|(with_reducible first|exact HB.out|apply below_alloc|apply pw_below_drewN|apply below_drew1|refine below_set ?_ GE519.out|refine below_set ?_ GE520.out)|exact HB.out)));(case aF=>exact (fun _ _=>trivial));(case aO=>exact (by (with_reducible repeat (first|apply Kd.R_alloc|apply Kd.R_drewN|apply Kd.R_drew));exact HO_7.out));(case aS=>exact (below_size (by repeat (first|(with_reducible first|exact HB.out|apply below_alloc|apply pw_below_drewN|apply below_drew1|refine below_set ?_ GE519.out|refine below_set ?_ GE520.out)|exact HB.out))));(case aL=>have:=LMc15.out;omega);intro v522 w16 ho hb hg hat;rw [← Ny521.out] at ho;have n0_:=Aside0.mk (blk_grown (g:=gb519) (o:=.cells #[.string a0_0,.int .i64 a0_1] 83 (0,0)) (by (with_reducible repeat (first|refine blk_drewN ?_ _|refine blk_drew ?_|refine blk_alloc ?_ _));exact BK519.out) hg (Kd.R_ne HO_7.out BK519.out (by decide)));have n1_:=Aside0.mk (blk_grown (g:=gb520) (o:=.cells #[.string (⟨#[]⟩:ByteArray),.int .i64 0,.slice none 0 0] 94 (0,0)) (by (with_reducible repeat (first|refine blk_drewN ?_ _|refine blk_drew ?_|refine blk_alloc ?_ _));exact BK520.out) hg (Kd.R_ne HO_7.out BK520.out (by decide)));have n2_:=Aside0.mk (hb);have n3_:=Aside0.mk (ho);clear BK519;clear BK520;clear HB;clear HO_7;have BK519:=n0_;have BK520:=n1_;have HB:=n2_;have HO523:=n3_;clear n0_ n1_ n2_ n3_;clear ho hb hg hat))
        go_roundg k2
        case measure=>have:=HJ3.out;have:=HK2.out;omega
        case rel=>exact ⟨(y521),(wrap64 (x8_2+1)),(by first|rfl|(simp;done)|(simp [*];done)),H',⟨by have:=HJ3.out;have:=HK2.out;omega⟩,⟨by (with_reducible repeat (first|apply Kd.R_alloc|apply Kd.R_drewN|apply Kd.R_drew));exact HO523.out⟩,⟨by (with_reducible repeat (first|refine blk_drewN ?_ _|refine blk_drew ?_|refine blk_alloc ?_ _));exact BK519.out⟩,⟨by (with_reducible repeat (first|refine blk_drewN ?_ _|refine blk_drew ?_|refine blk_alloc ?_ _));exact BK520.out⟩,⟨by repeat (first|(with_reducible first|exact HB.out|apply below_alloc|apply pw_below_drewN|apply below_drew1|refine below_set ?_ GE519.out|refine below_set ?_ GE520.out)|exact HB.out)⟩⟩
       ·
        rw [if_neg c15] at H
        exact absurd H (by simp)
      ·
       rw [if_neg c14] at H
       have c14b0:decide (x8_2 < a1)=false:=decide_eq_false c14
       clear c14
       have H':=Aside0.mk H
       clear H
       have hnb17:=NB519_520.out
       have hnc17:=NB520_519.out
       have hcz18_0:wr.cell? ⟨gb519,0,none⟩=some (.string a0_0):=(blk_cell BK519.out 0).trans rfl
       have hcz18_1:wr.cell? ⟨gb519,1,none⟩=some (.int .i64 a0_1):=(blk_cell BK519.out 1).trans rfl
       have hfz18_0:=blk_frozen BK519.out 0
       have hfz18_1:=blk_frozen BK519.out 1
       go_wp2_with (first|((with_reducible refine gate_dst (N:=9) rfl ?_);refine box_event ?hg (N:=9) ?hd (cs:=#[.string (⟨#[]⟩:ByteArray),.int .i64 0,.slice none 0 0]) (t:=94) ?hr ?_;(case hd=>rfl);(case hg=>rfl);(case hr=>first|(go_simp;done)|(go_simp;rfl));intro gb524 hg w19 hbox hb;have n0_:=Aside0.mk (Kd.R_below (by (with_reducible repeat (first|apply Kd.R_alloc|apply Kd.R_drewN|apply Kd.R_drew));exact HO_7.out) hb);have n1_:=Aside0.mk (blk_below (g:=gb519) (o:=.cells #[.string a0_0,.int .i64 a0_1] 83 (0,0)) (by (with_reducible repeat (first|refine blk_drewN ?_ _|refine blk_drew ?_|refine blk_alloc ?_ _));exact BK519.out) hb);have n2_:=Aside0.mk (blk_below (g:=gb520) (o:=.cells #[.string (⟨#[]⟩:ByteArray),.int .i64 0,.slice none 0 0] 94 (0,0)) (by (with_reducible repeat (first|refine blk_drewN ?_ _|refine blk_drew ?_|refine blk_alloc ?_ _));exact BK520.out) hb);have n3_:=Aside0.mk (below_step (by repeat (first|(with_reducible first|exact HB.out|apply below_alloc|apply pw_below_drewN|apply below_drew1|refine below_set ?_ GE519.out|refine below_set ?_ GE520.out)|exact HB.out)) hb);have n4_:=Aside0.mk (hbox);have n5_:=Aside0.mk ((by rw [hg];exact (below_size (by repeat (first|(with_reducible first|exact HB.out|apply below_alloc|apply pw_below_drewN|apply below_drew1|refine below_set ?_ GE519.out|refine below_set ?_ GE520.out)|exact HB.out))):w.heap.size≤gb524));have n6_:=Aside0.mk ((by rw [hg];exact (below_size (by repeat (first|(with_reducible first|exact HB.out|apply below_alloc|apply pw_below_drewN|apply below_drew1|refine below_set ?_ GE519.out|refine below_set ?_ GE520.out)|exact HB.out))):w.heap.size≤gb524));have n7_:=Aside0.mk ((by rw [hg];exact Nat.ne_of_lt (blk_lt (g:=gb519) (o:=.cells #[.string a0_0,.int .i64 a0_1] 83 (0,0)) (by (with_reducible repeat (first|refine blk_drewN ?_ _|refine blk_drew ?_|refine blk_alloc ?_ _));exact BK519.out)):gb519≠gb524));have n8_:=Aside0.mk ((by rw [hg];exact Nat.ne_of_gt (blk_lt (g:=gb519) (o:=.cells #[.string a0_0,.int .i64 a0_1] 83 (0,0)) (by (with_reducible repeat (first|refine blk_drewN ?_ _|refine blk_drew ?_|refine blk_alloc ?_ _));exact BK519.out)):gb524≠gb519));have n9_:=Aside0.mk ((by rw [hg];exact Nat.ne_of_lt (blk_lt (g:=gb520) (o:=.cells #[.string (⟨#[]⟩:ByteArray),.int .i64 0,.slice none 0 0] 94 (0,0)) (by (with_reducible repeat (first|refine blk_drewN ?_ _|refine blk_drew ?_|refine blk_alloc ?_ _));exact BK520.out)):gb520≠gb524));have n10_:=Aside0.mk ((by rw [hg];exact Nat.ne_of_gt (blk_lt (g:=gb520) (o:=.cells #[.string (⟨#[]⟩:ByteArray),.int .i64 0,.slice none 0 0] 94 (0,0)) (by (with_reducible repeat (first|refine blk_drewN ?_ _|refine blk_drew ?_|refine blk_alloc ?_ _));exact BK520.out)):gb524≠gb520));clear HO_7;clear BK519;clear BK520;clear HB;have HO_7:=n0_;have BK519:=n1_;have BK520:=n2_;have HB:=n3_;have BK524:=n4_;have GW524:=n5_;have GE524:=n6_;have NB519_524:=n7_;have NB524_519:=n8_;have NB520_524:=n9_;have NB524_520:=n10_;clear n0_ n1_ n2_ n3_ n4_ n5_ n6_ n7_ n8_ n9_ n10_;clear hb hbox hg;have hnb20:=NB524_519.out;have hnc20:=NB519_524.out;have hnb21:=NB524_520.out;have hnc21:=NB520_524.out;have hcz22_0:w19.cell? ⟨gb524,0,none⟩=some (.string (⟨#[]⟩:ByteArray)):=(blk_cell BK524.out 0).trans rfl;have hcz22_1:w19.cell? ⟨gb524,1,none⟩=some (.int .i64 0):=(blk_cell BK524.out 1).trans rfl;have hcz22_2:w19.cell? ⟨gb524,2,none⟩=some (.slice none 0 0):=(blk_cell BK524.out 2).trans rfl;have hfz22_0:=blk_frozen BK524.out 0;have hfz22_1:=blk_frozen BK524.out 1;have hfz22_2:=blk_frozen BK524.out 2))
       go_loopg [10] k2 (fun kq v10 w'=>∃ (x7_3:List Int) (x10_3:Int) (x525000_3:ByteArray) (x525001_3:Int) (x525002_3:List Int) (u525002:Value),v10=.int .i64 x10_3∧Aside0 (mosaicref04_Gen_Pick.l1 kq a1 a2 x7_3 x10_3 x525000_3 x525001_3 x525002_3=some (r1,r2,r3))∧Aside0 (kq≤k2)∧Aside0 (Kd.R (Kd.int .i64) 3 w' w.heap.size (fun k_=>some k_≠(u525002:Value).ownBlock) u7 x7_3)∧Aside0 (Kd.R (Kd.int .i64) 3 w' w.heap.size (fun k_=>some k_≠(u7:Value).ownBlock) u525002 x525002_3)∧Aside0 (w'.heap[gb519]?=some (.cells #[.string a0_0,.int .i64 a0_1] 83 (0,0)))∧Aside0 (w'.heap[gb520]?=some (.cells #[.string (⟨#[]⟩:ByteArray),.int .i64 0,(.slice none 0 0)] 94 (0,0)))∧Aside0 (w'.heap[gb524]?=some (.cells #[.string x525000_3,.int .i64 x525001_3,u525002] 94 (0,0)))∧Aside0 (Below w.heap.size w w'))
       case atStart=>exact ⟨(x7_2),(0),(a0_0),(a0_1),(([]:List Int)),(.slice none 0 0),(by first|rfl|(simp;done)|(simp [*];done)),H',⟨Nat.le_refl _⟩,⟨by (with_reducible repeat (first|apply Kd.R_alloc|apply Kd.R_drewN|apply Kd.R_drew));exact Kd.R_mono (Kd.R_far (p:=⟨gb524,2,none⟩) (Kd.R_far (p:=⟨gb524,1,none⟩) (Kd.R_far (p:=⟨gb524,0,none⟩) (Kd.R_types HO_7.out BK524.out (by decide)) (fun _ hk=>hk.2) (.string a0_0)) (fun _ hk=>hk.2) (.int .i64 a0_1)) (fun _ hk=>hk.2) (.slice none 0 0)) (fun _ hk=>(by simp [Value.ownBlock]))⟩,⟨by first|exact Kd.R_nil _ _ _ _ _|exact Kd.N_nil _ _ _ _ _|exact Kd.V_nil _ _ _ _ _|exact Kd.Q_nil _ _ _ _ _|exact Kd.S_nil _ _ _ _ _⟩,⟨by (with_reducible repeat (first|refine blk_drewN ?_ _|refine blk_drew ?_|refine blk_alloc ?_ _));refine blk_far ?_ NB519_524.out _;(with_reducible repeat (first|refine blk_drewN ?_ _|refine blk_drew ?_|refine blk_alloc ?_ _));refine blk_far ?_ NB519_524.out _;(with_reducible repeat (first|refine blk_drewN ?_ _|refine blk_drew ?_|refine blk_alloc ?_ _));refine blk_far ?_ NB519_524.out _;(with_reducible repeat (first|refine blk_drewN ?_ _|refine blk_drew ?_|refine blk_alloc ?_ _));exact BK519.out⟩,⟨by (with_reducible repeat (first|refine blk_drewN ?_ _|refine blk_drew ?_|refine blk_alloc ?_ _));refine blk_far ?_ NB520_524.out _;(with_reducible repeat (first|refine blk_drewN ?_ _|refine blk_drew ?_|refine blk_alloc ?_ _));refine blk_far ?_ NB520_524.out _;(with_reducible repeat (first|refine blk_drewN ?_ _|refine blk_drew ?_|refine blk_alloc ?_ _));refine blk_far ?_ NB520_524.out _;(with_reducible repeat (first|refine blk_drewN ?_ _|refine blk_drew ?_|refine blk_alloc ?_ _));exact BK520.out⟩,⟨by (with_reducible repeat (first|refine blk_drewN ?_ _|refine blk_drew ?_|refine blk_alloc ?_ _));refine blk_put (cs:=#[.string a0_0,.int .i64 a0_1,.slice none 0 0]) ?_ 2 _ rfl;(with_reducible repeat (first|refine blk_drewN ?_ _|refine blk_drew ?_|refine blk_alloc ?_ _));refine blk_put (cs:=#[.string a0_0,.int .i64 0,.slice none 0 0]) ?_ 1 _ rfl;(with_reducible repeat (first|refine blk_drewN ?_ _|refine blk_drew ?_|refine blk_alloc ?_ _));refine blk_put (cs:=#[.string (⟨#[]⟩:ByteArray),.int .i64 0,.slice none 0 0]) ?_ 0 _ rfl;(with_reducible repeat (first|refine blk_drewN ?_ _|refine blk_drew ?_|refine blk_alloc ?_ _));exact BK524.out⟩,⟨by repeat (first|(with_reducible first|exact HB.out|apply below_alloc|apply pw_below_drewN|apply below_drew1|refine below_set ?_ GE519.out|refine below_set ?_ GE520.out|refine below_set ?_ GE524.out)|exact HB.out)⟩⟩
       case round =>
        clear H'
        try clear c1
        try clear c2
        try clear p2
        try clear p6
        try clear c7
        try clear c7b0
        try clear c8
        try clear c8b0
        try clear c9
        try clear c9b0
        try clear c10
        try clear c11
        try clear c14
        try clear c14b0
        try clear c15
        try clear c17
        try clear c20
        try clear c21
        try clear hcz12_0
        try clear hcz12_1
        try clear hcz13_0
        try clear hcz13_1
        try clear hcz13_2
        try clear hcz18_0
        try clear hcz18_1
        try clear hcz22_0
        try clear hcz22_1
        try clear hcz22_2
        try clear hfz12_0
        try clear hfz12_1
        try clear hfz13_0
        try clear hfz13_1
        try clear hfz13_2
        try clear hfz18_0
        try clear hfz18_1
        try clear hfz22_0
        try clear hfz22_1
        try clear hfz22_2
        try clear p2
        obtain ⟨x7_3,x10_3,x525000_3,x525001_3,x525002_3,u525002,rfl,HA,HK3,HO_7,HO_525002,BK519,BK520,BK524,HB⟩:=hrel
        cases gk with
        | zero=>exact absurd HA.out (by simp [mosaicref04_Gen_Pick.l1])
        | succ k3 =>
         have H:=HA.out
         clear HA
         simp only [mosaicref04_Gen_Pick.l1] at H
         by_cases c23:x10_3 < a2
         ·
          rw [if_pos c23] at H
          have c23b0:decide (x10_3 < a2)=true:=decide_eq_true c23
          clear c23
          replace H:=Option.bind_eq_some_iff.mp H
          obtain ⟨⟨t525,t526,t527⟩,A240,H⟩:=H
          replace H:(if 0≤x10_3 then (if x10_3 < (x7_3.length:Int) then (if 0≤(wrap64 (x10_3+t527)) then (if (wrap64 (x10_3+t527)) < (x7_3.length:Int) then ((some ((x7_3.set (x10_3:Int).toNat (rd x7_3 (wrap64 (x10_3+t527)))).set ((wrap64 (x10_3+t527)):Int).toNat (rd x7_3 x10_3):List Int)).bind fun y532=>(if x525002_3.length < 17592186044416 then (mosaicref04_Gen_Pick.l1 k3 a1 a2 y532 (wrap64 (x10_3+1)) t525 t526 (x525002_3 ++ [rd y532 x10_3])) else (none))) else (none)) else (none)) else (none)) else (none))=some (r1,r2,r3):=H
          have A24:=Aside0.mk A240
          clear A240
          by_cases c25:0≤x10_3
          ·
           rw [if_pos c25] at H
           have c25b0:decide (0≤x10_3)=true:=decide_eq_true c25
           clear c25
           by_cases c26:x10_3 < (x7_3.length:Int)
           ·
            rw [if_pos c26] at H
            have c26b0:decide (x10_3 < (x7_3.length:Int))=true:=decide_eq_true c26
            clear c26
            obtain ⟨ji27,hji27⟩:∃ j_:Int,(wrap64 (x10_3+t527))=j_:=⟨_,rfl⟩
            replace H:(if 0≤(ji27) then (if (ji27) < (x7_3.length:Int) then ((some ((x7_3.set (x10_3:Int).toNat (rd x7_3 (ji27))).set ((ji27):Int).toNat (rd x7_3 x10_3):List Int)).bind fun y532=>(if x525002_3.length < 17592186044416 then (mosaicref04_Gen_Pick.l1 k3 a1 a2 y532 (wrap64 (x10_3+1)) t525 t526 (x525002_3 ++ [rd y532 x10_3])) else (none))) else (none)) else (none))=some (r1,r2,r3):=by first|(rw [hji27] at H;exact H)|(simp only [hji27] at H ⊢;exact H)
            (try rw [hji27] at A24)
            have hji27w:(IntKind.i64.wrap (x10_3+t527))=ji27:=(i64_w _).trans hji27
            by_cases c28:0≤(ji27)
            ·
             rw [if_pos c28] at H
             have c28b0:decide (0≤(ji27))=true:=decide_eq_true c28
             clear c28
             by_cases c29:(ji27) < (x7_3.length:Int)
             ·
              rw [if_pos c29] at H
              have c29b0:decide ((ji27) < (x7_3.length:Int))=true:=decide_eq_true c29
              clear c29
              obtain ⟨y531,hy531⟩:∃ y_:List Int,y_=(x7_3.set (x10_3:Int).toNat (rd x7_3 (ji27))):=⟨_,rfl⟩
              replace H:((some (y531.set ((ji27):Int).toNat (rd x7_3 x10_3):List Int)).bind fun y532=>(if x525002_3.length < 17592186044416 then (mosaicref04_Gen_Pick.l1 k3 a1 a2 y532 (wrap64 (x10_3+1)) t525 t526 (x525002_3 ++ [rd y532 x10_3])) else (none)))=some (r1,r2,r3):=by first|(rw [hy531];with_reducible exact H)|(have H2_:=(Option.bind_some _ _).symm.trans H;rw [hy531];with_reducible exact H2_)|(have H2_:=(Option.bind_some _ _).symm.trans H;with_reducible exact H2_)|with_reducible exact H|(rw [hy531];exact H)|exact H
              have Ny531:=Aside0.mk hy531
              clear hy531
              obtain ⟨y532,hy532⟩:∃ y_:List Int,y_=(y531.set ((ji27):Int).toNat (rd x7_3 x10_3)):=⟨_,rfl⟩
              replace H:(if x525002_3.length < 17592186044416 then (mosaicref04_Gen_Pick.l1 k3 a1 a2 y532 (wrap64 (x10_3+1)) t525 t526 (x525002_3 ++ [rd y532 x10_3])) else (none))=some (r1,r2,r3):=by first|(rw [hy532];with_reducible exact H)|(have H2_:=(Option.bind_some _ _).symm.trans H;rw [hy532];with_reducible exact H2_)|(have H2_:=(Option.bind_some _ _).symm.trans H;with_reducible exact H2_)|with_reducible exact H|(rw [hy532];exact H)|exact H
              have Ny532:=Aside0.mk hy532
              clear hy532
              by_cases c32:x525002_3.length < 17592186044416
              ·
               rw [if_pos c32] at H
               have LMc32:=Aside0.mk c32
               clear c32
               obtain ⟨y534,hy534⟩:∃ y_:List Int,y_=(x525002_3 ++ [rd y532 x10_3]):=⟨_,rfl⟩
               replace H:(mosaicref04_Gen_Pick.l1 k3 a1 a2 y532 (wrap64 (x10_3+1)) t525 t526 y534)=some (r1,r2,r3):=by first|(rw [hy534];with_reducible exact H)|(have H2_:=(Option.bind_some _ _).symm.trans H;rw [hy534];with_reducible exact H2_)|(have H2_:=(Option.bind_some _ _).symm.trans H;with_reducible exact H2_)|with_reducible exact H|(rw [hy534];exact H)|exact H
               have Ny534:=Aside0.mk hy534
               clear hy534
               have H':=Aside0.mk H
               clear H
               have hnb33:=NB524_519.out
               have hnc33:=NB519_524.out
               have hnb34:=NB524_520.out
               have hnc34:=NB520_524.out
               have hcz35_0:wr.cell? ⟨gb524,0,none⟩=some (.string x525000_3):=(blk_cell BK524.out 0).trans rfl
               have hcz35_1:wr.cell? ⟨gb524,1,none⟩=some (.int .i64 x525001_3):=(blk_cell BK524.out 1).trans rfl
               have hcz35_2:wr.cell? ⟨gb524,2,none⟩=some (u525002):=(blk_cell BK524.out 2).trans rfl
               have hfz35_0:=blk_frozen BK524.out 0
               have hfz35_1:=blk_frozen BK524.out 1
               have hfz35_2:=blk_frozen BK524.out 2
               try go_wp2_with (first|((with_reducible refine gate_callee (f:=69) rfl ?_);refine goesL_ (some 52) rfl rfl Try.func69 (by kernel_rfl) rfl #[.agg #[.string x525000_3,.int .i64 x525001_3],.int .i64 (wrap64 (a1 - x10_3))] rfl (by (try simp only [List.map_toArray,List.map_cons,List.map_nil]);first|done|rfl|(simp only [List.length_drop,List.length_take];rfl)) ?_;(with_reducible refine (mosaicref04_Gen_Below.calls k3 x525000_3 x525001_3 (wrap64 (a1 - x10_3)) t525 t526 t527 _ A24.out).mono ?_);rintro e w36 ⟨rfl,hb⟩;refine ⟨_,rfl,?_⟩;have n0_:=Aside0.mk (Kd.R_below (by (with_reducible repeat (first|apply Kd.R_alloc|apply Kd.R_drewN|apply Kd.R_drew));exact HO_7.out) hb);have n1_:=Aside0.mk (Kd.R_below (by (with_reducible repeat (first|apply Kd.R_alloc|apply Kd.R_drewN|apply Kd.R_drew));exact HO_525002.out) hb);have n2_:=Aside0.mk (blk_below (g:=gb519) (o:=.cells #[.string a0_0,.int .i64 a0_1] 83 (0,0)) (by (with_reducible repeat (first|refine blk_drewN ?_ _|refine blk_drew ?_|refine blk_alloc ?_ _));exact BK519.out) hb);have n3_:=Aside0.mk (blk_below (g:=gb520) (o:=.cells #[.string (⟨#[]⟩:ByteArray),.int .i64 0,.slice none 0 0] 94 (0,0)) (by (with_reducible repeat (first|refine blk_drewN ?_ _|refine blk_drew ?_|refine blk_alloc ?_ _));exact BK520.out) hb);have n4_:=Aside0.mk (blk_below (g:=gb524) (o:=.cells #[.string x525000_3,.int .i64 x525001_3,u525002] 94 (0,0)) (by (with_reducible repeat (first|refine blk_drewN ?_ _|refine blk_drew ?_|refine blk_alloc ?_ _));exact BK524.out) hb);have n5_:=Aside0.mk (below_step (by repeat (first|(with_reducible first|exact HB.out|apply below_alloc|apply pw_below_drewN|apply below_drew1|refine below_set ?_ GE519.out|refine below_set ?_ GE520.out|refine below_set ?_ GE524.out)|exact HB.out)) hb);clear HO_7;clear HO_525002;clear BK519;clear BK520;clear BK524;clear HB;have HO_7:=n0_;have HO_525002:=n1_;have BK519:=n2_;have BK520:=n3_;have BK524:=n4_;have HB:=n5_;clear n0_ n1_ n2_ n3_ n4_ n5_;(try clear hb);(try clear hb2);(try clear hk);(try clear hi))|((with_reducible refine gate_dst (N:=11) rfl ?_);refine box_event ?hg (N:=11) ?hd (cs:=#[.string (⟨#[]⟩:ByteArray),.int .i64 0,.int .i64 0]) (t:=85) ?hr ?_;(case hd=>rfl);(case hg=>rfl);(case hr=>first|(go_simp;done)|(go_simp;rfl));intro gb528 hg w37 hbox hb;have n0_:=Aside0.mk (Kd.R_below (by (with_reducible repeat (first|apply Kd.R_alloc|apply Kd.R_drewN|apply Kd.R_drew));exact HO_7.out) hb);have n1_:=Aside0.mk (Kd.R_below (by (with_reducible repeat (first|apply Kd.R_alloc|apply Kd.R_drewN|apply Kd.R_drew));exact HO_525002.out) hb);have n2_:=Aside0.mk (blk_below (g:=gb519) (o:=.cells #[.string a0_0,.int .i64 a0_1] 83 (0,0)) (by (with_reducible repeat (first|refine blk_drewN ?_ _|refine blk_drew ?_|refine blk_alloc ?_ _));exact BK519.out) hb);have n3_:=Aside0.mk (blk_below (g:=gb520) (o:=.cells #[.string (⟨#[]⟩:ByteArray),.int .i64 0,.slice none 0 0] 94 (0,0)) (by (with_reducible repeat (first|refine blk_drewN ?_ _|refine blk_drew ?_|refine blk_alloc ?_ _));exact BK520.out) hb);have n4_:=Aside0.mk (blk_below (g:=gb524) (o:=.cells #[.string x525000_3,.int .i64 x525001_3,u525002] 94 (0,0)) (by (with_reducible repeat (first|refine blk_drewN ?_ _|refine blk_drew ?_|refine blk_alloc ?_ _));exact BK524.out) hb);have n5_:=Aside0.mk (below_step (by repeat (first|(with_reducible first|exact HB.out|apply below_alloc|apply pw_below_drewN|apply below_drew1|refine below_set ?_ GE519.out|refine below_set ?_ GE520.out|refine below_set ?_ GE524.out)|exact HB.out)) hb);have n6_:=Aside0.mk (hbox);have n7_:=Aside0.mk ((by rw [hg];exact (below_size (by repeat (first|(with_reducible first|exact HB.out|apply below_alloc|apply pw_below_drewN|apply below_drew1|refine below_set ?_ GE519.out|refine below_set ?_ GE520.out|refine below_set ?_ GE524.out)|exact HB.out))):w.heap.size≤gb528));have n8_:=Aside0.mk ((by rw [hg];exact (below_size (by repeat (first|(with_reducible first|exact HB.out|apply below_alloc|apply pw_below_drewN|apply below_drew1|refine below_set ?_ GE519.out|refine below_set ?_ GE520.out|refine below_set ?_ GE524.out)|exact HB.out))):w.heap.size≤gb528));have n9_:=Aside0.mk ((by rw [hg];exact Nat.ne_of_lt (blk_lt (g:=gb519) (o:=.cells #[.string a0_0,.int .i64 a0_1] 83 (0,0)) (by (with_reducible repeat (first|refine blk_drewN ?_ _|refine blk_drew ?_|refine blk_alloc ?_ _));exact BK519.out)):gb519≠gb528));have n10_:=Aside0.mk ((by rw [hg];exact Nat.ne_of_gt (blk_lt (g:=gb519) (o:=.cells #[.string a0_0,.int .i64 a0_1] 83 (0,0)) (by (with_reducible repeat (first|refine blk_drewN ?_ _|refine blk_drew ?_|refine blk_alloc ?_ _));exact BK519.out)):gb528≠gb519));have n11_:=Aside0.mk ((by rw [hg];exact Nat.ne_of_lt (blk_lt (g:=gb520) (o:=.cells #[.string (⟨#[]⟩:ByteArray),.int .i64 0,.slice none 0 0] 94 (0,0)) (by (with_reducible repeat (first|refine blk_drewN ?_ _|refine blk_drew ?_|refine blk_alloc ?_ _));exact BK520.out)):gb520≠gb528));have n12_:=Aside0.mk ((by rw [hg];exact Nat.ne_of_gt (blk_lt (g:=gb520) (o:=.cells #[.string (⟨#[]⟩:ByteArray),.int .i64 0,.slice none 0 0] 94 (0,0)) (by (with_reducible repeat (first|refine blk_drewN ?_ _|refine blk_drew ?_|refine blk_alloc ?_ _));exact BK520.out)):gb528≠gb520));have n13_:=Aside0.mk ((by rw [hg];exact Nat.ne_of_lt (blk_lt (g:=gb524) (o:=.cells #[.string x525000_3,.int .i64 x525001_3,u525002] 94 (0,0)) (by (with_reducible repeat (first|refine blk_drewN ?_ _|refine blk_drew ?_|refine blk_alloc ?_ _));exact BK524.out)):gb524≠gb528));have n14_:=Aside0.mk ((by rw [hg];exact Nat.ne_of_gt (blk_lt (g:=gb524) (o:=.cells #[.string x525000_3,.int .i64 x525001_3,u525002] 94 (0,0)) (by (with_reducible repeat (first|refine blk_drewN ?_ _|refine blk_drew ?_|refine blk_alloc ?_ _));exact BK524.out)):gb528≠gb524));clear HO_7;clear HO_525002;clear BK519;clear BK520;clear BK524;clear HB;have HO_7:=n0_;have HO_525002:=n1_;have BK519:=n2_;have BK520:=n3_;have BK524:=n4_;have HB:=n5_;have BK528:=n6_;have GW528:=n7_;have GE528:=n8_;have NB519_528:=n9_;have NB528_519:=n10_;have NB520_528:=n11_;have NB528_520:=n12_;have NB524_528:=n13_;have NB528_524:=n14_;clear n0_ n1_ n2_ n3_ n4_ n5_ n6_ n7_ n8_ n9_ n10_ n11_ n12_ n13_ n14_;clear hb hbox hg;have hnb38:=NB528_519.out;have hnc38:=NB519_528.out;have hnb39:=NB528_520.out;have hnc39:=NB520_528.out;have hnb40:=NB528_524.out;have hnc40:=NB524_528.out;have hcz41_0:w37.cell? ⟨gb528,0,none⟩=some (.string (⟨#[]⟩:ByteArray)):=(blk_cell BK528.out 0).trans rfl;have hcz41_1:w37.cell? ⟨gb528,1,none⟩=some (.int .i64 0):=(blk_cell BK528.out 1).trans rfl;have hcz41_2:w37.cell? ⟨gb528,2,none⟩=some (.int .i64 0):=(blk_cell BK528.out 2).trans rfl;have hfz41_0:=blk_frozen BK528.out 0;have hfz41_1:=blk_frozen BK528.out 1;have hfz41_2:=blk_frozen BK528.out 2)|((with_reducible refine gate_store (t:=85) (p:=11) rfl ?_);refine store_event (t:=85) (p:=11) (v:=?vo_w42) (w1:=(((w37.setCell ⟨gb528,0,none⟩ (.string t525)).setCell ⟨gb528,1,none⟩ (.int .i64 t526)).setCell ⟨gb528,2,none⟩ (.int .i64 t527))) ?hg ?ho ?hn ?hr ?_;(case ho=>rfl);(case hg=>rfl);(case hn=>rfl);(case hr=>first|(go_simp;done)|(go_simp;rfl));intro w42 hw;have n0_:Aside0 (Kd.R (Kd.int .i64) 3 w42 w.heap.size (fun k_=>some k_≠(u525002:Value).ownBlock) u7 x7_3):=⟨(by rw [hw];exact (by (with_reducible repeat (first|apply Kd.R_alloc|apply Kd.R_drewN|apply Kd.R_drew));exact Kd.R_mono (Kd.R_far (p:=⟨gb528,2,none⟩) (Kd.R_far (p:=⟨gb528,1,none⟩) (Kd.R_far (p:=⟨gb528,0,none⟩) (Kd.R_types HO_7.out BK528.out (by decide)) (fun _ hk=>hk.2) (.string t525)) (fun _ hk=>hk.2) (.int .i64 t526)) (fun _ hk=>hk.2) (.int .i64 t527)) (fun _ hk=>hk.1)))⟩;have n1_:Aside0 (Kd.R (Kd.int .i64) 3 w42 w.heap.size (fun k_=>some k_≠(u7:Value).ownBlock) u525002 x525002_3):=⟨(by rw [hw];exact (by (with_reducible repeat (first|apply Kd.R_alloc|apply Kd.R_drewN|apply Kd.R_drew));exact Kd.R_mono (Kd.R_far (p:=⟨gb528,2,none⟩) (Kd.R_far (p:=⟨gb528,1,none⟩) (Kd.R_far (p:=⟨gb528,0,none⟩) (Kd.R_types HO_525002.out BK528.out (by decide)) (fun _ hk=>hk.2) (.string t525)) (fun _ hk=>hk.2) (.int .i64 t526)) (fun _ hk=>hk.2) (.int .i64 t527)) (fun _ hk=>hk.1)))⟩;have n2_:Aside0 (w42.heap[gb519]?=some (.cells #[.string a0_0,.int .i64 a0_1] 83 (0,0))):=⟨(by rw [hw];exact (by (with_reducible repeat (first|refine blk_drewN ?_ _|refine blk_drew ?_|refine blk_alloc ?_ _));refine blk_far ?_ NB519_528.out _;(with_reducible repeat (first|refine blk_drewN ?_ _|refine blk_drew ?_|refine blk_alloc ?_ _));refine blk_far ?_ NB519_528.out _;(with_reducible repeat (first|refine blk_drewN ?_ _|refine blk_drew ?_|refine blk_alloc ?_ _));refine blk_far ?_ NB519_528.out _;(with_reducible repeat (first|refine blk_drewN ?_ _|refine blk_drew ?_|refine blk_alloc ?_ _));exact BK519.out))⟩;have n3_:Aside0 (w42.heap[gb520]?=some (.cells #[.string (⟨#[]⟩:ByteArray),.int .i64 0,.slice none 0 0] 94 (0,0))):=⟨(by rw [hw];exact (by (with_reducible repeat (first|refine blk_drewN ?_ _|refine blk_drew ?_|refine blk_alloc ?_ _));refine blk_far ?_ NB520_528.out _;(with_reducible repeat (first|refine blk_drewN ?_ _|refine blk_drew ?_|refine blk_alloc ?_ _));refine blk_far ?_ NB520_528.out _;(with_reducible repeat (first|refine blk_drewN ?_ _|refine blk_drew ?_|refine blk_alloc ?_ _));refine blk_far ?_ NB520_528.out _;(with_reducible repeat (first|refine blk_drewN ?_ _|refine blk_drew ?_|refine blk_alloc ?_ _));exact BK520.out))⟩;have n4_:Aside0 (w42.heap[gb524]?=some (.cells #[.string x525000_3,.int .i64 x525001_3,u525002] 94 (0,0))):=⟨(by rw [hw];exact (by (with_reducible repeat (first|refine blk_drewN ?_ _|refine blk_drew ?_|refine blk_alloc ?_ _));refine blk_far ?_ NB524_528.out _;(with_reducible repeat (first|refine blk_drewN ?_ _|refine blk_drew ?_|refine blk_alloc ?_ _));refine blk_far ?_ NB524_528.out _;(with_reducible repeat (first|refine blk_drewN ?_ _|refine blk_drew ?_|refine blk_alloc ?_ _));refine blk_far ?_ NB524_528.out _;(with_reducible repeat (first|refine blk_drewN ?_ _|refine blk_drew ?_|refine blk_alloc ?_ _));exact BK524.out))⟩;have n5_:Aside0 (w42.heap[gb528]?=some (.cells #[.string t525,.int .i64 t526,.int .i64 t527] 85 (0,0))):=⟨(by rw [hw];exact (by (with_reducible repeat (first|refine blk_drewN ?_ _|refine blk_drew ?_|refine blk_alloc ?_ _));refine blk_put (cs:=#[.string t525,.int .i64 t526,.int .i64 0]) ?_ 2 _ rfl;(with_reducible repeat (first|refine blk_drewN ?_ _|refine blk_drew ?_|refine blk_alloc ?_ _));refine blk_put (cs:=#[.string t525,.int .i64 0,.int .i64 0]) ?_ 1 _ rfl;(with_reducible repeat (first|refine blk_drewN ?_ _|refine blk_drew ?_|refine blk_alloc ?_ _));refine blk_put (cs:=#[.string (⟨#[]⟩:ByteArray),.int .i64 0,.int .i64 0]) ?_ 0 _ rfl;(with_reducible repeat (first|refine blk_drewN ?_ _|refine blk_drew ?_|refine blk_alloc ?_ _));exact BK528.out))⟩;have n6_:Aside0 (Below w.heap.size w w42):=⟨(by rw [hw];exact (by repeat (first|(with_reducible first|exact HB.out|apply below_alloc|apply pw_below_drewN|apply below_drew1|refine below_set ?_ GE519.out|refine below_set ?_ GE520.out|refine below_set ?_ GE524.out|refine below_set ?_ GE528.out)|exact HB.out)))⟩;clear hw;clear HO_7;clear HO_525002;clear BK519;clear BK520;clear BK524;clear BK528;clear HB;have HO_7:=n0_;have HO_525002:=n1_;have BK519:=n2_;have BK520:=n3_;have BK524:=n4_;have BK528:=n5_;have HB:=n6_;clear n0_ n1_ n2_ n3_ n4_ n5_ n6_;have hcz43_0:w42.cell? ⟨gb528,0,none⟩=some (.string t525):=(blk_cell BK528.out 0).trans rfl;have hcz43_1:w42.cell? ⟨gb528,1,none⟩=some (.int .i64 t526):=(blk_cell BK528.out 1).trans rfl;have hcz43_2:w42.cell? ⟨gb528,2,none⟩=some (.int .i64 t527):=(blk_cell BK528.out 2).trans rfl;have hfz43_0:=blk_frozen BK528.out 0;have hfz43_1:=blk_frozen BK528.out 1;have hfz43_2:=blk_frozen BK528.out 2;have hcz44_0:w42.cell? ⟨gb524,0,none⟩=some (.string x525000_3):=(blk_cell BK524.out 0).trans rfl;have hcz44_1:w42.cell? ⟨gb524,1,none⟩=some (.int .i64 x525001_3):=(blk_cell BK524.out 1).trans rfl;have hcz44_2:w42.cell? ⟨gb524,2,none⟩=some (u525002):=(blk_cell BK524.out 2).trans rfl;have hfz44_0:=blk_frozen BK524.out 0;have hfz44_1:=blk_frozen BK524.out 1;have hfz44_2:=blk_frozen BK524.out 2)|((with_reducible refine gate_store (t:=83) (p:=55) rfl ?_);refine store_event (t:=83) (p:=55) (v:=?vo_w45) (w1:=((w42.setCell ⟨gb524,0,none⟩ (.string t525)).setCell ⟨gb524,1,none⟩ (.int .i64 t526))) ?hg ?ho ?hn ?hr ?_;(case ho=>rfl);(case hg=>rfl);(case hn=>rfl);(case hr=>first|(go_simp;done)|(go_simp;rfl));intro w45 hw;have n0_:Aside0 (Kd.R (Kd.int .i64) 3 w45 w.heap.size (fun k_=>some k_≠(u525002:Value).ownBlock) u7 x7_3):=⟨(by rw [hw];exact (by (with_reducible repeat (first|apply Kd.R_alloc|apply Kd.R_drewN|apply Kd.R_drew));exact Kd.R_mono (Kd.R_far (p:=⟨gb524,1,none⟩) (Kd.R_far (p:=⟨gb524,0,none⟩) (Kd.R_types HO_7.out BK524.out (by decide)) (fun _ hk=>hk.2) (.string t525)) (fun _ hk=>hk.2) (.int .i64 t526)) (fun _ hk=>hk.1)))⟩;have n1_:Aside0 (Kd.R (Kd.int .i64) 3 w45 w.heap.size (fun k_=>some k_≠(u7:Value).ownBlock) u525002 x525002_3):=⟨(by rw [hw];exact (by (with_reducible repeat (first|apply Kd.R_alloc|apply Kd.R_drewN|apply Kd.R_drew));exact Kd.R_mono (Kd.R_far (p:=⟨gb524,1,none⟩) (Kd.R_far (p:=⟨gb524,0,none⟩) (Kd.R_types HO_525002.out BK524.out (by decide)) (fun _ hk=>hk.2) (.string t525)) (fun _ hk=>hk.2) (.int .i64 t526)) (fun _ hk=>hk.1)))⟩;have n2_:Aside0 (w45.heap[gb519]?=some (.cells #[.string a0_0,.int .i64 a0_1] 83 (0,0))):=⟨(by rw [hw];exact (by (with_reducible repeat (first|refine blk_drewN ?_ _|refine blk_drew ?_|refine blk_alloc ?_ _));refine blk_far ?_ NB519_524.out _;(with_reducible repeat (first|refine blk_drewN ?_ _|refine blk_drew ?_|refine blk_alloc ?_ _));refine blk_far ?_ NB519_524.out _;(with_reducible repeat (first|refine blk_drewN ?_ _|refine blk_drew ?_|refine blk_alloc ?_ _));exact BK519.out))⟩;have n3_:Aside0 (w45.heap[gb520]?=some (.cells #[.string (⟨#[]⟩:ByteArray),.int .i64 0,.slice none 0 0] 94 (0,0))):=⟨(by rw [hw];exact (by (with_reducible repeat (first|refine blk_drewN ?_ _|refine blk_drew ?_|refine blk_alloc ?_ _));refine blk_far ?_ NB520_524.out _;(with_reducible repeat (first|refine blk_drewN ?_ _|refine blk_drew ?_|refine blk_alloc ?_ _));refine blk_far ?_ NB520_524.out _;(with_reducible repeat (first|refine blk_drewN ?_ _|refine blk_drew ?_|refine blk_alloc ?_ _));exact BK520.out))⟩;have n4_:Aside0 (w45.heap[gb524]?=some (.cells #[.string t525,.int .i64 t526,u525002] 94 (0,0))):=⟨(by rw [hw];exact (by (with_reducible repeat (first|refine blk_drewN ?_ _|refine blk_drew ?_|refine blk_alloc ?_ _));refine blk_put (cs:=#[.string t525,.int .i64 x525001_3,u525002]) ?_ 1 _ rfl;(with_reducible repeat (first|refine blk_drewN ?_ _|refine blk_drew ?_|refine blk_alloc ?_ _));refine blk_put (cs:=#[.string x525000_3,.int .i64 x525001_3,u525002]) ?_ 0 _ rfl;(with_reducible repeat (first|refine blk_drewN ?_ _|refine blk_drew ?_|refine blk_alloc ?_ _));exact BK524.out))⟩;have n5_:Aside0 (w45.heap[gb528]?=some (.cells #[.string t525,.int .i64 t526,.int .i64 t527] 85 (0,0))):=⟨(by rw [hw];exact (by (with_reducible repeat (first|refine blk_drewN ?_ _|refine blk_drew ?_|refine blk_alloc ?_ _));refine blk_far ?_ NB528_524.out _;(with_reducible repeat (first|refine blk_drewN ?_ _|refine blk_drew ?_|refine blk_alloc ?_ _));refine blk_far ?_ NB528_524.out _;(with_reducible repeat (first|refine blk_drewN ?_ _|refine blk_drew ?_|refine blk_alloc ?_ _));exact BK528.out))⟩;have n6_:Aside0 (Below w.heap.size w w45):=⟨(by rw [hw];exact (by repeat (first|(with_reducible first|exact HB.out|apply below_alloc|apply pw_below_drewN|apply below_drew1|refine below_set ?_ GE519.out|refine below_set ?_ GE520.out|refine below_set ?_ GE524.out|refine below_set ?_ GE528.out)|exact HB.out)))⟩;clear hw;clear HO_7;clear HO_525002;clear BK519;clear BK520;clear BK524;clear BK528;clear HB;have HO_7:=n0_;have HO_525002:=n1_;have BK519:=n2_;have BK520:=n3_;have BK524:=n4_;have BK528:=n5_;have HB:=n6_;clear n0_ n1_ n2_ n3_ n4_ n5_ n6_;have hcz46_0:w45.cell? ⟨gb528,0,none⟩=some (.string t525):=(blk_cell BK528.out 0).trans rfl;have hcz46_1:w45.cell? ⟨gb528,1,none⟩=some (.int .i64 t526):=(blk_cell BK528.out 1).trans rfl;have hcz46_2:w45.cell? ⟨gb528,2,none⟩=some (.int .i64 t527):=(blk_cell BK528.out 2).trans rfl;have hfz46_0:=blk_frozen BK528.out 0;have hfz46_1:=blk_frozen BK528.out 1;have hfz46_2:=blk_frozen BK528.out 2;obtain ⟨Ao47,co47,eo47⟩:=Kd.R_slice HO_7.out;subst eo47;have p529:0≤(x10_3:Int):=of_decide_eq_true (by first|(with_reducible assumption)|assumption);have q529:x10_3 < (x7_3.length:Int):=of_decide_eq_true (by first|(with_reducible assumption)|assumption);obtain ⟨ad529,e529,hx529_0⟩:=Kd.at_int (Kd.R_reads' HO_7.out).2.2 x10_3 p529 q529;cases e529;replace p529:=eq_true p529;replace q529:=eq_true q529;have p530:0≤((ji27):Int):=of_decide_eq_true (by first|(with_reducible assumption)|assumption);have q530:(ji27) < (x7_3.length:Int):=of_decide_eq_true (by first|(with_reducible assumption)|assumption);obtain ⟨ad530,e530,hx530_0⟩:=Kd.at_int (Kd.R_reads' HO_7.out).2.2 (ji27) p530 q530;obtain rfl:ad529=ad530:=(by injection e530);replace p530:=eq_true p530;replace q530:=eq_true q530;have p30:0≤(x10_3:Int):=of_decide_eq_true (by first|(with_reducible assumption)|assumption);have q30:(x10_3:Int) < ((x7_3.length:Int):Int):=of_decide_eq_true (by first|(with_reducible assumption)|assumption);obtain ⟨go30,co30,eo30,gb30,gl30,cl30,HG30⟩:=Kd.R_form HO_7.out (by omega);(first|cases eo30|(injection eo30 with ea_ en_ ec_;(first|subst ea_|(injection ea_ with ea_;subst ea_));subst ec_;clear en_));have GB30:=Aside0.mk gb30;have GG30:=Aside0.mk HG30;clear gb30 gl30 HG30;(first|simp only [add_plain] at hx529_0|skip);(first|simp only [add_plain] at hx530_0|skip);obtain ⟨hx30_0,hf30_0⟩:=Kd.R_celln 0 HO_7.out (x10_3:Int) p30 q30;replace p30:=eq_true p30;replace q30:=eq_true q30;obtain ⟨hy48_,hz48_⟩:=Kd.R_celln 0 HO_7.out (x10_3:Int) (of_decide_eq_true (by first|(with_reducible assumption)|assumption)) (of_decide_eq_true (by first|(with_reducible assumption)|assumption));have HP48:=Kd.R_putg HO_7.out (x10_3:Int) (rd x7_3 (ji27)))|((with_reducible refine gate_store (t:=3) (p:=70) rfl ?_);refine store_event (t:=3) (p:=70) (v:=?vo_w49) (w1:=(w45.setCell ⟨go30,(x10_3:Int).toNat,none⟩ (.int .i64 (rd x7_3 (ji27))))) ?hg ?ho ?hn ?hr ?_;(case ho=>rfl);(case hg=>rfl);(case hn=>rfl);(case hr=>first|(go_simp;done)|(go_simp;rfl));intro w49 hw;have hg:w45.grownBy w49 (some go30):=(by rw [hw];exact HP48.2);have hp_:Kd.R (Kd.int .i64) 3 w49 w.heap.size (fun k_=>some k_≠(u525002:Value).ownBlock) (.slice (some ⟨go30,0,none⟩) x7_3.length co47) y531:=(by rw [hw,Ny531.out];exact HP48.1);clear HP48;have n0_:=Aside0.mk (hp_);have n1_:=Aside0.mk (Kd.R_after (v:=(.slice (some ⟨go30,0,none⟩) x7_3.length co47)) (v1:=(.slice (some ⟨go30,0,none⟩) x7_3.length co47)) (ok:=(fun _=>True)) (by (with_reducible repeat (first|apply Kd.R_alloc|apply Kd.R_drewN|apply Kd.R_drew));exact Kd.R_mono HO_525002.out (fun _ hk=>⟨trivial,hk⟩)) hg (.inl rfl));have n2_:=Aside0.mk (blk_grown (g:=gb519) (o:=.cells #[.string a0_0,.int .i64 a0_1] 83 (0,0)) (by (with_reducible repeat (first|refine blk_drewN ?_ _|refine blk_drew ?_|refine blk_alloc ?_ _));exact BK519.out) hg (Kd.R_ne HO_7.out BK519.out (by decide)));have n3_:=Aside0.mk (blk_grown (g:=gb520) (o:=.cells #[.string (⟨#[]⟩:ByteArray),.int .i64 0,.slice none 0 0] 94 (0,0)) (by (with_reducible repeat (first|refine blk_drewN ?_ _|refine blk_drew ?_|refine blk_alloc ?_ _));exact BK520.out) hg (Kd.R_ne HO_7.out BK520.out (by decide)));have n4_:=Aside0.mk (blk_grown (g:=gb524) (o:=.cells #[.string t525,.int .i64 t526,u525002] 94 (0,0)) (by (with_reducible repeat (first|refine blk_drewN ?_ _|refine blk_drew ?_|refine blk_alloc ?_ _));exact BK524.out) hg (Kd.R_ne HO_7.out BK524.out (by decide)));have n5_:=Aside0.mk (blk_grown (g:=gb528) (o:=.cells #[.string t525,.int .i64 t526,.int .i64 t527] 85 (0,0)) (by (with_reducible repeat (first|refine blk_drewN ?_ _|refine blk_drew ?_|refine blk_alloc ?_ _));exact BK528.out) hg (Kd.R_ne HO_7.out BK528.out (by decide)));have n6_:=Aside0.mk ((by rw [hw];exact below_set (HB.out) GB30.out:Below w.heap.size w w49));clear HO_7;clear HO_525002;clear BK519;clear BK520;clear BK524;clear BK528;clear HB;have HO_7:=n0_;have HO_525002:=n1_;have BK519:=n2_;have BK520:=n3_;have BK524:=n4_;have BK528:=n5_;have HB:=n6_;clear n0_ n1_ n2_ n3_ n4_ n5_ n6_;clear hg hw hp_;have p31:0≤((ji27):Int):=of_decide_eq_true (by first|(with_reducible assumption)|assumption);have q31:((ji27):Int) < ((x7_3.length:Int):Int):=of_decide_eq_true (by first|(with_reducible assumption)|assumption);obtain ⟨hx31_0,hf31_0⟩:=Kd.R_celln 0 HO_7.out ((ji27):Int) p31 q31;replace p31:=eq_true p31;replace q31:=eq_true q31;obtain ⟨hy50_,hz50_⟩:=Kd.R_celln 0 HO_7.out ((ji27):Int) (of_decide_eq_true (by first|(with_reducible assumption)|assumption)) (of_decide_eq_true (by first|(with_reducible assumption)|assumption));have HP50:=Kd.R_putg HO_7.out ((ji27):Int) (rd x7_3 x10_3))|((with_reducible refine gate_store (t:=3) (p:=74) rfl ?_);refine store_event (t:=3) (p:=74) (v:=?vo_w51) (w1:=(w49.setCell ⟨go30,((ji27):Int).toNat,none⟩ (.int .i64 (rd x7_3 x10_3)))) ?hg ?ho ?hn ?hr ?_;(case ho=>rfl);(case hg=>rfl);(case hn=>rfl);(case hr=>first|(go_simp;done)|(go_simp;rfl));intro w51 hw;have hg:w49.grownBy w51 (some go30):=(by rw [hw];exact HP50.2);have hp_:Kd.R (Kd.int .i64) 3 w51 w.heap.size (fun k_=>some k_≠(u525002:Value).ownBlock) (.slice (some ⟨go30,0,none⟩) x7_3.length co47) y532:=(by rw [hw,Ny532.out];exact HP50.1);clear HP50;have n0_:=Aside0.mk (hp_);have n1_:=Aside0.mk (Kd.R_after (v:=(.slice (some ⟨go30,0,none⟩) x7_3.length co47)) (v1:=(.slice (some ⟨go30,0,none⟩) x7_3.length co47)) (ok:=(fun _=>True)) (by (with_reducible repeat (first|apply Kd.R_alloc|apply Kd.R_drewN|apply Kd.R_drew));exact HO_525002.out) hg (.inl rfl));have n2_:=Aside0.mk (blk_grown (g:=gb519) (o:=.cells #[.string a0_0,.int .i64 a0_1] 83 (0,0)) (by (with_reducible repeat (first|refine blk_drewN ?_ _|refine blk_drew ?_|refine blk_alloc ?_ _));exact BK519.out) hg (Kd.R_ne HO_7.out BK519.out (by decide)));have n3_:=Aside0.mk (blk_grown (g:=gb520) (o:=.cells #[.string (⟨#[]⟩:ByteArray),.int .i64 0,.slice none 0 0] 94 (0,0)) (by (with_reducible repeat (first|refine blk_drewN ?_ _|refine blk_drew ?_|refine blk_alloc ?_ _));exact BK520.out) hg (Kd.R_ne HO_7.out BK520.out (by decide)));have n4_:=Aside0.mk (blk_grown (g:=gb524) (o:=.cells #[.string t525,.int .i64 t526,u525002] 94 (0,0)) (by (with_reducible repeat (first|refine blk_drewN ?_ _|refine blk_drew ?_|refine blk_alloc ?_ _));exact BK524.out) hg (Kd.R_ne HO_7.out BK524.out (by decide)));have n5_:=Aside0.mk (blk_grown (g:=gb528) (o:=.cells #[.string t525,.int .i64 t526,.int .i64 t527] 85 (0,0)) (by (with_reducible repeat (first|refine blk_drewN ?_ _|refine blk_drew ?_|refine blk_alloc ?_ _));exact BK528.out) hg (Kd.R_ne HO_7.out BK528.out (by decide)));have n6_:=Aside0.mk ((by rw [hw];exact below_set (HB.out) GB30.out:Below w.heap.size w w51));clear HO_7;clear HO_525002;clear BK519;clear BK520;clear BK524;clear BK528;clear HB;have HO_7:=n0_;have HO_525002:=n1_;have BK519:=n2_;have BK520:=n3_;have BK524:=n4_;have BK528:=n5_;have HB:=n6_;clear n0_ n1_ n2_ n3_ n4_ n5_ n6_;clear hg hw hp_))
               have n0_:=Aside0.mk (Kd.R_drew HO_7.out)
               have n1_:=Aside0.mk (Kd.R_drew HO_525002.out)
               have n2_:=Aside0.mk (blk_drew BK519.out)
               have n3_:=Aside0.mk (blk_drew BK520.out)
               have n4_:=Aside0.mk (blk_drew BK524.out)
               have n5_:=Aside0.mk (blk_drew BK528.out)
               have n6_:=Aside0.mk (below_drew1 HB.out)
               clear HO_7
               clear HO_525002
               clear BK519
               clear BK520
               clear BK524
               clear BK528
               clear HB
               have HO_7:=n0_
               have HO_525002:=n1_
               have BK519:=n2_
               have BK520:=n3_
               have BK524:=n4_
               have BK528:=n5_
               have HB:=n6_
               clear n0_ n1_ n2_ n3_ n4_ n5_ n6_
               have p533:0≤(x10_3:Int):=of_decide_eq_true (by first|(with_reducible assumption)|assumption)
               have q533:x10_3 < (y532.length:Int):=(by have h_:(x10_3:Int) < ((x7_3.length:Int):Int):=of_decide_eq_true (by first|(with_reducible assumption)|assumption);first|(have e_:=(Kd.R_reads' HO_7.out).1;omega)|simpa only [Ny531.out,Ny532.out,List.length_set] using h_)
               have ql533:((x10_3:Int) < ((x7_3.length:Int):Int))=True:=eq_true (of_decide_eq_true (by first|(with_reducible assumption)|assumption))
               obtain ⟨ad533,e533,hx533_0⟩:=Kd.at_int (Kd.R_reads' HO_7.out).2.2 x10_3 p533 q533
               obtain rfl:(⟨go30,0,none⟩:Addr)=ad533:=(by injection e533)
               (first|simp only [add_plain] at hx533_0|simp only [add_at] at hx533_0|simp only [Addr.add,Nat.zero_add] at hx533_0|skip)
               replace p533:=eq_true p533
               replace q533:=eq_true q533
               refine start_ (n:=10) (S:=fun w'=>w'.cell? ⟨gb524,0,none⟩=some (.string t525)∧w'.cell? ⟨gb524,1,none⟩=some (.int .i64 t526)∧w'.cell? ⟨gb524,2,none⟩=some (u525002)∧w'.cell? ⟨go30,(x10_3).toNat,none⟩=some (.int .i64 (rd y532 x10_3))) (ds:=[7,9]) #[false,false,false,false,false,false,false,false,false,false] (by kernel_rfl) rfl rfl ⟨(blk_cell BK524.out 0).trans rfl,(blk_cell BK524.out 1).trans rfl,(blk_cell BK524.out 2).trans rfl,hx533_0⟩ (fun hHeld=>?_);refine with_tabW mosaicref04_Gen_Pick.tab18 mosaicref04_Gen_Pick.bits18 (fun HT_ HW_=>?_)
               generalize w51.drew=w52 at HO_7 HO_525002 BK519 BK520 BK524 BK528 HB hx533_0 hHeld ⊢
               refine pure_ (i:=0) (N:=some 75) (v:=?_) (a':=?_) #[true,false,false,false,false,false,false,false,false,false] rfl rfl (any_of HT_.out (by kernel_rfl)) (fun _ _ _ h=>h) (Or.inl ⟨by rfl,?_⟩) ?_ ?_
               rotate_left
               ·
                intro w'
                go_simp
                with_reducible rfl
               rotate_left
               ·
                simp only [Act.put,List.setIfInBounds_toArray,List.set_cons_zero,List.set_cons_succ,i64_w,i32_w]
                rfl
               refine pure_ (i:=2) (N:=some 77) (v:=?_) (a':=?_) #[true,false,true,false,false,false,false,false,false,false] rfl rfl (any_of HT_.out (by kernel_rfl)) (fun _ _ _ h=>h) (Or.inl ⟨by rfl,?_⟩) ?_ ?_
               rotate_left
               ·
                intro w'
                go_simp
                with_reducible rfl
               rotate_left
               ·
                simp only [Act.put,List.setIfInBounds_toArray,List.set_cons_zero,List.set_cons_succ,i64_w,i32_w]
                rfl
               refine pure_ (i:=3) (N:=some 78) (v:=?_) (a':=?_) #[true,false,true,true,false,false,false,false,false,false] rfl rfl (any_of HT_.out (by kernel_rfl)) (fun _ _ _ h=>h) (Or.inl ⟨by rfl,?_⟩) ?_ ?_
               rotate_left
               ·
                intro w'
                go_simp
                with_reducible rfl
               rotate_left
               ·
                simp only [Act.put,List.setIfInBounds_toArray,List.set_cons_zero,List.set_cons_succ,i64_w,i32_w]
                rfl
               refine pure_ (i:=4) (N:=some 79) (v:=?_) (a':=?_) #[true,false,true,true,true,false,false,false,false,false] rfl rfl (any_of HT_.out (by kernel_rfl)) (fun _ _ _ h=>h) (Or.inl ⟨by rfl,?_⟩) ?_ ?_
               rotate_left
               ·
                intro w'
                go_simp
                with_reducible rfl
               rotate_left
               ·
                simp only [Act.put,List.setIfInBounds_toArray,List.set_cons_zero,List.set_cons_succ,i64_w,i32_w]
                rfl
               refine take_ (i:=1) (N:=some 76) (v:=?_) (a':=?_) #[true,true,true,true,true,false,false,false,false,false] rfl rfl (take_ofW HT_.out HW_.out (by kernel_rfl)) (fun _ _ _ h=>h) (Or.inl ⟨by rfl,?_⟩) hHeld ?_ ?_
               rotate_left
               ·
                rintro w' ⟨s0,s1,s2,s3⟩
                go_simp
                with_reducible rfl
               rotate_left
               ·
                simp only [Act.put,List.setIfInBounds_toArray,List.set_cons_zero,List.set_cons_succ,i64_w,i32_w]
                rfl
               refine take_ (i:=5) (N:=some 80) (v:=?_) (a':=?_) #[true,true,true,true,true,true,false,false,false,false] rfl rfl (take_ofW HT_.out HW_.out (by kernel_rfl)) (fun _ _ _ h=>h) (Or.inl ⟨by rfl,?_⟩) hHeld ?_ ?_
               rotate_left
               ·
                rintro w' ⟨s0,s1,s2,s3⟩
                go_simp
                with_reducible rfl
               rotate_left
               ·
                simp only [Act.put,List.setIfInBounds_toArray,List.set_cons_zero,List.set_cons_succ,i64_w,i32_w]
                rfl
               refine one_ (i:=6) (N:=some 81) #[true,true,true,true,true,true,true,false,false,false] rfl rfl (one_of HT_.out (by kernel_rfl)) (by decide) (fun K hK=>?_)
               refine value_ (w1:=?_) (v:=?_) (by rfl) rfl ?_ ?_
               rotate_left 2
               ·
                go_simp
                constructor
                ·
                 rfl
                ·
                 rfl
               refine hK.out _ _ ⟨(blk_cell (blk_alloc BK524.out _) 0).trans rfl,(blk_cell (blk_alloc BK524.out _) 1).trans rfl,(blk_cell (blk_alloc BK524.out _) 2).trans rfl,(World.cell?_alloc_lt _ _ _ (World.block_lt_of_cell? _ _ (hHeld.2.2.2))).trans (hHeld.2.2.2)⟩ (fun hHeld=>?_)
               clear hK K
               refine norm_ (a':=?_) ?_ ?_
               rotate_left
               ·
                show Act.put _ (some 81) _=_
                simp only [Act.put,List.setIfInBounds_toArray,List.set_cons_zero,List.set_cons_succ,i64_w,i32_w]
                rfl
               refine last_ (i:=7) (N:=some 82) #[true,true,true,true,true,true,true,true,false,false] rfl rfl (one_of HT_.out (by kernel_rfl)) (by decide) (fun K hK=>?_)
               refine Kd.R_append_step (Kd.int .i64) (w0:=w) w.heap.size (by rfl) (.tmp 76) (.tmp 81) 77 3 (.int .i64 0) 8 rfl Try.underlying77 info3 rfl (by decide) (by omega) u525002 x525002_3 (rd y532 x10_3) [.int .i64 (rd y532 x10_3)] (fun k_=>some k_≠(.slice (some ⟨go30,0,none⟩) x7_3.length co47:Value).ownBlock) (fun _=>False) rfl rfl ?aP (fun _ hk=>hk.elim) ?aF ?aO ?aB ?aS ?aL ?_
               (case aP=>exact rfl)
               (case aB=>exact (by repeat (first|(with_reducible first|exact HB.out|apply below_alloc|apply pw_below_drewN|apply below_drew1|refine below_set ?_ GE519.out|refine below_set ?_ GE520.out|refine below_set ?_ GE524.out|refine below_set ?_ GE528.out)|exact HB.out)))
               (case aF=>exact (fun k_ hk=>Kd.fresh' (Kd.R_lt (by (with_reducible repeat (first|apply Kd.R_alloc|apply Kd.R_drewN|apply Kd.R_drew));exact HO_7.out)) k_ hk))
               (case aO=>exact (by (with_reducible repeat (first|apply Kd.R_alloc|apply Kd.R_drewN|apply Kd.R_drew));exact Kd.R_mono HO_525002.out (fun _ hk=>hk.2)))
               (case aS=>exact (below_size (by repeat (first|(with_reducible first|exact HB.out|apply below_alloc|apply pw_below_drewN|apply below_drew1|refine below_set ?_ GE519.out|refine below_set ?_ GE520.out|refine below_set ?_ GE524.out|refine below_set ?_ GE528.out)|exact HB.out))))
               (case aL=>have:=LMc32.out;omega)
               intro v535 w53 ho hb hg hat
               rw [← Ny534.out] at ho
               have n0_:=Aside0.mk (Kd.R_after (ok:=(fun _=>True)) (by (with_reducible repeat (first|apply Kd.R_alloc|apply Kd.R_drewN|apply Kd.R_drew));exact Kd.R_mono HO_7.out (fun _ hk=>⟨trivial,hk⟩)) hg hat)
               have n1_:=Aside0.mk (blk_grown (g:=gb519) (o:=.cells #[.string a0_0,.int .i64 a0_1] 83 (0,0)) (by (with_reducible repeat (first|refine blk_drewN ?_ _|refine blk_drew ?_|refine blk_alloc ?_ _));exact BK519.out) hg (Kd.R_ne HO_525002.out BK519.out (by decide)))
               have n2_:=Aside0.mk (blk_grown (g:=gb520) (o:=.cells #[.string (⟨#[]⟩:ByteArray),.int .i64 0,.slice none 0 0] 94 (0,0)) (by (with_reducible repeat (first|refine blk_drewN ?_ _|refine blk_drew ?_|refine blk_alloc ?_ _));exact BK520.out) hg (Kd.R_ne HO_525002.out BK520.out (by decide)))
               have n3_:=Aside0.mk (blk_grown (g:=gb524) (o:=.cells #[.string t525,.int .i64 t526,u525002] 94 (0,0)) (by (with_reducible repeat (first|refine blk_drewN ?_ _|refine blk_drew ?_|refine blk_alloc ?_ _));exact BK524.out) hg (Kd.R_ne HO_525002.out BK524.out (by decide)))
               have n4_:=Aside0.mk (blk_grown (g:=gb528) (o:=.cells #[.string t525,.int .i64 t526,.int .i64 t527] 85 (0,0)) (by (with_reducible repeat (first|refine blk_drewN ?_ _|refine blk_drew ?_|refine blk_alloc ?_ _));exact BK528.out) hg (Kd.R_ne HO_525002.out BK528.out (by decide)))
               have n5_:=Aside0.mk (hb)
               have n6_:=Aside0.mk (ho)
               clear HO_7
               clear BK519
               clear BK520
               clear BK524
               clear BK528
               clear HB
               clear HO_525002
               have HO_7:=n0_
               have BK519:=n1_
               have BK520:=n2_
               have BK524:=n3_
               have BK528:=n4_
               have HB:=n5_
               have HO536:=n6_
               clear n0_ n1_ n2_ n3_ n4_ n5_ n6_
               clear ho hb hg hat
               obtain ⟨Ao54,co54,eo54⟩:=Kd.R_slice HO536.out
               (first|subst eo54|(injection eo54 with f1_ f2_ f3_;have f4_:=f1_.symm;have f5_:=f3_.symm;clear f1_ f2_ f3_;subst f4_;subst f5_))
               refine hK.out _ _ ?_
               clear hK K
               refine norm_ (a':=?_) ?_ ?_
               rotate_left
               ·
                show Act.put _ (some 82) _=_
                simp only [Act.put,List.setIfInBounds_toArray,List.set_cons_zero,List.set_cons_succ,i64_w,i32_w]
                rfl
               refine pure_ (i:=8) (N:=some 83) (v:=?_) (a':=?_) #[true,true,true,true,true,true,true,true,true,false] rfl rfl (any_of HT_.out (by kernel_rfl)) (fun _ _ _ h=>h) (Or.inl ⟨by rfl,?_⟩) ?_ ?_
               rotate_left
               ·
                intro w'
                go_simp
                with_reducible rfl
               rotate_left
               ·
                simp only [Act.put,List.setIfInBounds_toArray,List.set_cons_zero,List.set_cons_succ,i64_w,i32_w]
                rfl
               refine last_ (i:=9) (N:=none) #[true,true,true,true,true,true,true,true,true,true] rfl rfl (one_of HT_.out (by kernel_rfl)) (by decide) (fun K hK=>?_)
               have hs55:w53.cell? ⟨gb524,2,none⟩=some (u525002):=(blk_cell BK524.out 2).trans rfl
               have hfs55:=blk_frozen BK524.out 2
               have hns55_0:=NB519_524.out
               have hns55_1:=NB520_524.out
               have hns55_3:=NB528_524.out
               have hms55_0:=NB524_519.out
               have hms55_1:=NB524_520.out
               have hms55_3:=NB524_528.out
               refine skip_ (w1:=?_) (by rfl) rfl ?_ ?_
               rotate_left
               ·
                go_simp
                rfl
               refine hK.out _ _ ?_
               clear hK K
               refine done_ (done_of HT_.out (by kernel_rfl)) ?_
               try go_wp2
               go_roundg k3
               case measure=>have:=HJ3.out;have:=HK2.out;have:=HK3.out;omega
               case rel=>exact ⟨(y532),(wrap64 (x10_3+1)),(t525),(t526),(y534),(.slice Ao54 y534.length co54),(by first|rfl|(simp;done)|(simp [*];done)),H',⟨by have:=HJ3.out;have:=HK2.out;have:=HK3.out;omega⟩,⟨by (with_reducible repeat (first|apply Kd.R_alloc|apply Kd.R_drewN|apply Kd.R_drew));exact Kd.R_mono (Kd.R_far (p:=⟨gb524,2,none⟩) (Kd.R_types HO_7.out BK524.out (by decide)) (fun _ hk=>hk.2) (.slice Ao54 y534.length co54)) (fun _ hk=>hk.1.2)⟩,⟨by (with_reducible repeat (first|apply Kd.R_alloc|apply Kd.R_drewN|apply Kd.R_drew));exact Kd.R_mono (Kd.R_far (p:=⟨gb524,2,none⟩) (Kd.R_types HO536.out BK524.out (by decide)) (fun _ hk=>hk.2) (.slice Ao54 y534.length co54)) (fun _ hk=>hk.1)⟩,⟨by (with_reducible repeat (first|refine blk_drewN ?_ _|refine blk_drew ?_|refine blk_alloc ?_ _));refine blk_far ?_ NB519_524.out _;(with_reducible repeat (first|refine blk_drewN ?_ _|refine blk_drew ?_|refine blk_alloc ?_ _));exact BK519.out⟩,⟨by (with_reducible repeat (first|refine blk_drewN ?_ _|refine blk_drew ?_|refine blk_alloc ?_ _));refine blk_far ?_ NB520_524.out _;(with_reducible repeat (first|refine blk_drewN ?_ _|refine blk_drew ?_|refine blk_alloc ?_ _));exact BK520.out⟩,⟨by (with_reducible repeat (first|refine blk_drewN ?_ _|refine blk_drew ?_|refine blk_alloc ?_ _));refine blk_put (cs:=#[.string t525,.int .i64 t526,u525002]) ?_ 2 _ rfl;(with_reducible repeat (first|refine blk_drewN ?_ _|refine blk_drew ?_|refine blk_alloc ?_ _));exact BK524.out⟩,⟨by repeat (first|(with_reducible first|exact HB.out|apply below_alloc|apply pw_below_drewN|apply below_drew1|refine below_set ?_ GE519.out|refine below_set ?_ GE520.out|refine below_set ?_ GE524.out|refine below_set ?_ GE528.out)|exact HB.out)⟩⟩
              ·
               rw [if_neg c32] at H
               exact absurd H (by simp)
             ·
              rw [if_neg c29] at H
              exact absurd H (by simp)
            ·
             rw [if_neg c28] at H
             exact absurd H (by simp)
           ·
            rw [if_neg c26] at H
            exact absurd H (by simp)
          ·
           rw [if_neg c25] at H
           exact absurd H (by simp)
         ·
          rw [if_neg c23] at H
          have c23b0:decide (x10_3 < a2)=false:=decide_eq_false c23
          clear c23
          simp only [Option.some.injEq,Prod.mk.injEq] at H
          obtain ⟨rfl,rfl,rfl⟩:=H
          have hnb56:=NB524_519.out
          have hnc56:=NB519_524.out
          have hnb57:=NB524_520.out
          have hnc57:=NB520_524.out
          have hcz58_0:wr.cell? ⟨gb524,0,none⟩=some (.string x525000_3):=(blk_cell BK524.out 0).trans rfl
          have hcz58_1:wr.cell? ⟨gb524,1,none⟩=some (.int .i64 x525001_3):=(blk_cell BK524.out 1).trans rfl
          have hcz58_2:wr.cell? ⟨gb524,2,none⟩=some (u525002):=(blk_cell BK524.out 2).trans rfl
          have hfz58_0:=blk_frozen BK524.out 0
          have hfz58_1:=blk_frozen BK524.out 1
          have hfz58_2:=blk_frozen BK524.out 2
          have hnb59:=NB520_519.out
          have hnc59:=NB519_520.out
          have hcz60_0:wr.cell? ⟨gb520,0,none⟩=some (.string (⟨#[]⟩:ByteArray)):=(blk_cell BK520.out 0).trans rfl
          have hcz60_1:wr.cell? ⟨gb520,1,none⟩=some (.int .i64 0):=(blk_cell BK520.out 1).trans rfl
          have hcz60_2:wr.cell? ⟨gb520,2,none⟩=some (.slice none 0 0):=(blk_cell BK520.out 2).trans rfl
          have hfz60_0:=blk_frozen BK520.out 0
          have hfz60_1:=blk_frozen BK520.out 1
          have hfz60_2:=blk_frozen BK520.out 2
          obtain ⟨Ao61,co61,eo61⟩:=Kd.R_slice HO_525002.out
          subst eo61
          go_wp2
          refine bodyPost_ret (results_cell_row rfl _ _ gb520 94 #[.string x525000_3,.int .i64 x525001_3,.slice Ao61 x525002_3.length co61] (0,0) _ rfl (by (with_reducible repeat (first|refine blk_drewN ?_ _|refine blk_drew ?_|refine blk_alloc ?_ _));refine blk_put (cs:=#[.string x525000_3,.int .i64 x525001_3,.slice none 0 0]) ?_ 2 _ rfl;(with_reducible repeat (first|refine blk_drewN ?_ _|refine blk_drew ?_|refine blk_alloc ?_ _));refine blk_put (cs:=#[.string x525000_3,.int .i64 0,.slice none 0 0]) ?_ 1 _ rfl;(with_reducible repeat (first|refine blk_drewN ?_ _|refine blk_drew ?_|refine blk_alloc ?_ _));refine blk_put (cs:=#[.string (⟨#[]⟩:ByteArray),.int .i64 0,.slice none 0 0]) ?_ 0 _ rfl;(with_reducible repeat (first|refine blk_drewN ?_ _|refine blk_drew ?_|refine blk_alloc ?_ _));exact BK520.out) Try.underlying94 rfl (by kernel_rfl)) rfl ?_
          exact ⟨_,by first|rfl|(simp [errW_none,errW_some] <;> rfl)|(simp [*,errW_none,errW_some] <;> rfl),by (with_reducible repeat (first|apply Kd.R_alloc|apply Kd.R_drewN|apply Kd.R_drew));exact Kd.R_mono (Kd.R_far (p:=⟨gb520,2,none⟩) (Kd.R_far (p:=⟨gb520,1,none⟩) (Kd.R_far (p:=⟨gb520,0,none⟩) (Kd.R_types HO_525002.out BK520.out (by decide)) (fun _ hk=>hk.2) (.string x525000_3)) (fun _ hk=>hk.2) (.int .i64 x525001_3)) (fun _ hk=>hk.2) (.slice Ao61 x525002_3.length co61)) (fun _ hk=>trivial),by repeat (first|(with_reducible first|exact HB.out|apply below_alloc|apply pw_below_drewN|apply below_drew1|refine below_set ?_ GE519.out|refine below_set ?_ GE520.out|refine below_set ?_ GE524.out)|exact HB.out)⟩
end Go.Proofs.Ytelcaepenfjloaa.Print
/-! #### Pr72 -/
namespace Go.Proofs.Ytelcaepenfjloaa.Print
open Go.RowKit Go.Proofs.YtelcaepenfjloaaW.PrintWords Go.Proofs.YtelcaepenfjloaaW.PrintLast Go.Proofs.YtelcaepenfjloaaW.PrintMore
attribute [local go_sem] max2_int min2_int max_two min_two max_three min_three max_four min_four
set_option linter.unusedVariables false
set_option linter.unusedSimpArgs false
/-! ### mosaicref04_Same: function 72 -/
def mosaicref04_Same.l0:Nat→List Int→List Int→Int→Option (Bool)
 | 0,_,_,_=>none
 | k+1,x0,x1,x5=>if x5 < (x0.length:Int) then (if 0≤x5 then (if x5 < (x1.length:Int) then (if (rd x0 x5)=(rd x1 x5) then (mosaicref04_Same.l0 k x0 x1 (wrap64 (x5+1))) else (some false)) else (none)) else (none)) else (some true)
def mosaicref04_Same.f (k:Nat) (l0:List Int) (l1:List Int):Option (Bool):=if (l0.length:Int)=(l1.length:Int) then (mosaicref04_Same.l0 k l0 l1 0) else (some false)
theorem mosaicref04_Same.mono_l:∀ k,(∀ y0 y1 y2,LeO (mosaicref04_Same.l0 k y0 y1 y2) (mosaicref04_Same.l0 (k+1) y0 y1 y2))
 | 0=>fun _ _ _ r h=>by simp [mosaicref04_Same.l0] at h
 | k+1=>by
  have ih0:=mosaicref04_Same.mono_l k
  ·
   intro y0 y1 y2
   unfold mosaicref04_Same.l0
   repeat' first
   | (with_reducible exact ih0 _ _ _)
   | (with_reducible exact LeO.refl _)
   | (with_reducible exact LeO.none _)
   | (with_reducible refine LeO.ite ?_ ?_)
   | (with_reducible refine LeO.bind ?_ (fun _=>?_))
   | exact ih0 _ _ _
   | exact LeO.none _
   | refine LeO.ite ?_ ?_
   | refine LeO.bind ?_ (fun _=>?_)
theorem mosaicref04_Same.mono:∀ a0 a1 k,LeO (mosaicref04_Same.f k a0 a1) (mosaicref04_Same.f (k+1) a0 a1):=by
 intro a0 a1 k
 have ih0:=mosaicref04_Same.mono_l k
 unfold mosaicref04_Same.f
 repeat' first
   | (with_reducible exact ih0 _ _ _)
   | (with_reducible exact LeO.refl _)
   | (with_reducible exact LeO.none _)
   | (with_reducible refine LeO.ite ?_ ?_)
   | (with_reducible refine LeO.bind ?_ (fun _=>?_))
   | exact ih0 _ _ _
   | exact LeO.none _
   | refine LeO.ite ?_ ?_
   | refine LeO.bind ?_ (fun _=>?_)
set_option maxHeartbeats 8000000 in
set_option maxRecDepth 100000 in
theorem mosaicref04_Same.calls (k:Nat) (A0:Option Addr) (c0:Nat) (l0:List Int) (A1:Option Addr) (c1:Nat) (l1:List Int) (r:Bool) (w:World) (hr0:Kd.C (Kd.int .i64) w A0 l0.length l0) (hc0:l0.length≤c0) (hr1:Kd.C (Kd.int .i64) w A1 l1.length l1) (hc1:l1.length≤c1) (h:mosaicref04_Same.f k l0 l1=some r) :
  Calls Try.prog 72 #[.slice A0 l0.length c0,.slice A1 l1.length c1] w fun e w'=>e=.returned (.bool r)∧Drawn0 w w':=by
 have HR0:=Aside0.mk hr0
 have HC0:=Aside0.mk hc0
 clear hr0 hc0
 have HR1:=Aside0.mk hr1
 have HC1:=Aside0.mk hc1
 clear hr1 hc1
 have H:(if (l0.length:Int)=(l1.length:Int) then (mosaicref04_Same.l0 k l0 l1 0) else (some false))=some r:=h
 clear h
 by_cases c3:(l0.length:Int)=(l1.length:Int)
 ·
  rw [if_pos c3] at H
  have c3b0:((l0.length:Int) == (l1.length:Int))=true:=beq_iff_eq.mpr c3
  have c3b1:((l0.length:Int) != (l1.length:Int))=false:=bne_eq_false_iff_eq.mpr c3
  have c3b2:(l0.length == l1.length)=true:=by first|simpa using c3|(simp at c3 ⊢;omega)
  clear c3
  have H':=Aside0.mk H
  clear H
  go_enter Try.func72,Try.ntmps72
  go_wp2
  repeat (go_quiet (fail);try go_wp2)
  go_loopg [5] k (fun kq v5 w'=>∃ (x5_1:Int),v5=.int .i64 x5_1∧Aside0 (mosaicref04_Same.l0 kq l0 l1 x5_1=some r)∧Aside0 (kq≤k)∧Drawn0 w w')
  case atStart=>exact ⟨(0),(by first|rfl|(simp;done)|(simp [*];done)),H',⟨Nat.le_refl _⟩,by repeat (first|exact Drawn0.refl _|apply Drawn0.step)⟩
  case round =>
   clear H'
   try clear c1
   try clear p2
   try clear c3
   try clear c3b0
   try clear c3b1
   try clear c3b2
   obtain ⟨x5_1,rfl,HA,HK1,⟨m1,rfl⟩⟩:=hrel
   cases gk with
   | zero=>exact absurd HA.out (by simp [mosaicref04_Same.l0])
   | succ k1 =>
    have H:=HA.out
    clear HA
    simp only [mosaicref04_Same.l0] at H
    by_cases c4:x5_1 < (l0.length:Int)
    ·
     rw [if_pos c4] at H
     have c4b0:decide (x5_1 < (l0.length:Int))=true:=decide_eq_true c4
     clear c4
     by_cases c5:0≤x5_1
     ·
      rw [if_pos c5] at H
      have c5b0:decide (0≤x5_1)=true:=decide_eq_true c5
      clear c5
      by_cases c6:x5_1 < (l1.length:Int)
      ·
       rw [if_pos c6] at H
       have c6b0:decide (x5_1 < (l1.length:Int))=true:=decide_eq_true c6
       clear c6
       by_cases c7:(rd l0 x5_1)=(rd l1 x5_1)
       ·
        rw [if_pos c7] at H
        have c7b0:((rd l0 x5_1) == (rd l1 x5_1))=true:=beq_iff_eq.mpr c7
        have c7b1:((rd l0 x5_1) != (rd l1 x5_1))=false:=bne_eq_false_iff_eq.mpr c7
        clear c7
        have H':=Aside0.mk H
        clear H
        have p537:0≤(x5_1:Int):=of_decide_eq_true (by first|(with_reducible assumption)|assumption)
        have q537:x5_1 < (l0.length:Int):=of_decide_eq_true (by first|(with_reducible assumption)|assumption)
        obtain ⟨ad537,e537,hx537_0⟩:=Kd.at_int HR0.out x5_1 p537 q537
        cases e537
        replace p537:=eq_true p537
        replace q537:=eq_true q537
        have p538:0≤(x5_1:Int):=of_decide_eq_true (by first|(with_reducible assumption)|assumption)
        have q538:x5_1 < (l1.length:Int):=of_decide_eq_true (by first|(with_reducible assumption)|assumption)
        obtain ⟨ad538,e538,hx538_0⟩:=Kd.at_int HR1.out x5_1 p538 q538
        cases e538
        replace p538:=eq_true p538
        replace q538:=eq_true q538
        go_wp2
        repeat (go_quiet (fail);try go_wp2)
        go_roundg k1
        case measure=>have:=HK1.out;omega
        case rel=>exact ⟨(wrap64 (x5_1+1)),(by first|rfl|(simp;done)|(simp [*];done)),H',⟨by have:=HK1.out;omega⟩,by repeat (first|exact Drawn0.refl _|apply Drawn0.step)⟩
       ·
        rw [if_neg c7] at H
        have c7b0:((rd l0 x5_1) == (rd l1 x5_1))=false:=beq_eq_false_iff_ne.mpr c7
        have c7b1:((rd l0 x5_1) != (rd l1 x5_1))=true:=bne_iff_ne.mpr c7
        obtain rfl:=Option.some.inj H
        have p537:0≤(x5_1:Int):=of_decide_eq_true (by first|(with_reducible assumption)|assumption)
        have q537:x5_1 < (l0.length:Int):=of_decide_eq_true (by first|(with_reducible assumption)|assumption)
        obtain ⟨ad537,e537,hx537_0⟩:=Kd.at_int HR0.out x5_1 p537 q537
        cases e537
        replace p537:=eq_true p537
        replace q537:=eq_true q537
        have p538:0≤(x5_1:Int):=of_decide_eq_true (by first|(with_reducible assumption)|assumption)
        have q538:x5_1 < (l1.length:Int):=of_decide_eq_true (by first|(with_reducible assumption)|assumption)
        obtain ⟨ad538,e538,hx538_0⟩:=Kd.at_int HR1.out x5_1 p538 q538
        cases e538
        replace p538:=eq_true p538
        replace q538:=eq_true q538
        go_wp2
        repeat (go_quiet (fail);try go_wp2)
        go_ret
        exact ⟨by first|rfl|(simp;done)|(simp [*];done),by repeat (first|exact Drawn0.refl _|apply Drawn0.step)⟩
      ·
       rw [if_neg c6] at H
       exact absurd H (by simp)
     ·
      rw [if_neg c5] at H
      exact absurd H (by simp)
    ·
     rw [if_neg c4] at H
     have c4b0:decide (x5_1 < (l0.length:Int))=false:=decide_eq_false c4
     clear c4
     obtain rfl:=Option.some.inj H
     go_wp2
     repeat (go_quiet (fail);try go_wp2)
     go_ret
     exact ⟨by first|rfl|(simp;done)|(simp [*];done),by repeat (first|exact Drawn0.refl _|apply Drawn0.step)⟩
 ·
  rw [if_neg c3] at H
  have c3b0:((l0.length:Int) == (l1.length:Int))=false:=beq_eq_false_iff_ne.mpr c3
  have c3b1:((l0.length:Int) != (l1.length:Int))=true:=bne_iff_ne.mpr c3
  have c3b2:(l0.length == l1.length)=false:=by first|simpa using c3|(simp at c3 ⊢;omega)
  obtain rfl:=Option.some.inj H
  go_enter Try.func72,Try.ntmps72
  go_wp2
  repeat (go_quiet (fail);try go_wp2)
  go_ret
  exact ⟨by first|rfl|(simp;done)|(simp [*];done),by repeat (first|exact Drawn0.refl _|apply Drawn0.step)⟩
end Go.Proofs.Ytelcaepenfjloaa.Print
/-! #### PurePrng3 -/
/- prng in plain words: picks; the page's examples. -/
namespace Go.Proofs.Ytelcaepenfjloaa.Pure
open Go.RowKit Go.Proofs.Ytelcaepenfjloaa.Print Go.Proofs.YtelcaepenfjloaaW.PrintWords Go.Proofs.YtelcaepenfjloaaW.PrintLast Go.Proofs.YtelcaepenfjloaaW.PrintMore
set_option linter.unusedVariables false
set_option linter.unusedSimpArgs false
def swapL (L:List Int) (i j:Nat):List Int:=(L.set i (L.getD j 0)).set j (L.getD i 0)
theorem swapL_length (L:List Int) (i j:Nat):(swapL L i j).length=L.length:=by simp [swapL]
theorem swapL_take (L:List Int) (i j:Nat) (h:i≤j):(swapL L i j).take i=L.take i:=by
 unfold swapL
 apply List.ext_getElem?
 intro q
 rw [List.getElem?_take,List.getElem?_take]
 split
 ·
  rw [List.getElem?_set_ne (by omega),List.getElem?_set_ne (by omega)]
 ·
  rfl
def pickG (seed:ByteArray) (n:Nat):Nat→Nat→List Int→Int→List Int×Int
 | 0,_,L,u=>(L,u)
 | c+1,i,L,u=>pickG seed n c (i+1) (swapL L i ((i:Int)+(belowP seed u ((n:Int) - i)).1).toNat) (u+(belowP seed u ((n:Int) - i)).2)
def rangeI (n:Nat):List Int:=(List.range n).map (fun i:Nat=>(i:Int))
theorem rangeI_length (n:Nat):(rangeI n).length=n:=by simp [rangeI]
theorem rangeI_succ (n:Nat):rangeI (n+1)=rangeI n ++ [(n:Int)]:=by simp [rangeI,List.range_succ]
def pickP (seed:ByteArray) (u n k:Int):List Int×Int :=
 if 0≤n∧n≤4096∧0≤k∧k≤n then ((pickG seed n.toNat k.toNat 0 (rangeI n.toNat) u).1.take k.toNat,(pickG seed n.toNat k.toNat 0 (rangeI n.toNat) u).2) else ([],u)
theorem pickG_range (seed:ByteArray) (n:Nat) (hs:seed.size≤64):∀ (c i:Nat) (L:List Int) (u:Int),0≤u→u+8 * c≤1000000000→(pickG seed n c i L u).1.length=L.length∧u≤(pickG seed n c i L u).2∧(pickG seed n c i L u).2≤u+8 * c
 | 0,i,L,u,h0,h1=>⟨rfl,by simp [pickG],by simp [pickG]⟩
 | c+1,i,L,u,h0,h1=>by
  have hb:=belowP_range seed u ((n:Int) - i) hs h0 (by omega)
  have:=pickG_range seed n hs c (i+1) (swapL L i ((i:Int)+(belowP seed u ((n:Int) - i)).1).toNat) (u+(belowP seed u ((n:Int) - i)).2) (by omega) (by omega)
  rw [swapL_length] at this
  rw [pickG]
  refine ⟨this.1,by omega,by omega⟩
theorem pick_l1 (seed:ByteArray) (n kk:Nat) (hn:n≤4096) (hk:kk≤n):∀ (c i:Nat) (L:List Int) (u:Int) (b:ByteArray),i+c=kk→L.length=n→GenI seed u b→u+8 * c+8≤1000000000 →
  ∃ b',GenI seed (pickG seed n c i L u).2 b'∧Ev (fun k=>prng_Gen_Pick.l1 k (n:Int) (kk:Int) L (kk:Int) (i:Int) seed u b) ((pickG seed n c i L u).1.take kk,seed,(pickG seed n c i L u).2,b')
 | 0,i,L,u,b,h,hL,hg,hu=>by
  refine ⟨b,hg,Ev.succ ?_⟩
  simp only [prng_Gen_Pick.l1]
  refine Ev.neg (by omega) (Ev.pos (by omega) (Ev.pos (by omega) (Ev.some_ ?_)))
  rw [Int.toNat_natCast]
  rfl
 | c+1,i,L,u,b,h,hL,hg,hu=>by
  obtain ⟨b1,g1,e1⟩:=below_ev seed u ((n:Int) - i) b hg (by omega)
  have hb:=belowP_range seed u ((n:Int) - i) hg.1 hg.2.1 (by omega)
  have hb1:=hb.2.1 (by omega) (by omega)
  rw [pickG]
  generalize hd:belowP seed u ((n:Int) - i)=d at g1 e1 hb hb1 ⊢
  obtain ⟨b',g',e'⟩:=pick_l1 seed n kk hn hk c (i+1) (swapL L i ((i:Int)+d.1).toNat) (u+d.2) b1 (by omega) (by rw [swapL_length];exact hL) g1 (by omega)
  refine ⟨b',g',Ev.succ ?_⟩
  simp only [prng_Gen_Pick.l1]
  rw [wrap_of (x:=(n:Int) - i) (by omega) (by omega)]
  refine Ev.pos (by omega) (Ev.bind e1 ?_)
  simp only []
  rw [wrap_of (x:=(i:Int)+d.1) (by omega) (by omega),wrap_succ i (by omega)]
  refine Ev.pos (by omega) (Ev.pos (by omega) (Ev.pos (by omega) (Ev.pos (by omega) ?_)))
  rw [Int.toNat_natCast,rd_nat,show rd L ((i:Int)+d.1)=L.getD ((i:Int)+d.1).toNat 0 from rfl]
  exact e'
theorem pick_l0 (seed:ByteArray) (n kk:Nat) (hn:n≤4096) (u:Int) (b:ByteArray) (r:List Int×ByteArray×Int×ByteArray) (hr:Ev (fun k=>prng_Gen_Pick.l1 k (n:Int) (kk:Int) (rangeI n) (kk:Int) 0 seed u b) r) :
  ∀ (d i:Nat),i+d=n→Ev (fun k=>prng_Gen_Pick.l0 k (n:Int) (kk:Int) (rangeI i ++ List.replicate d 0) (n:Int) (i:Int) seed u b) r
 | 0,i,h=>by
  refine Ev.succ ?_
  simp only [prng_Gen_Pick.l0]
  rw [show List.replicate 0 (0:Int)=[] from rfl,List.append_nil,show i=n by omega]
  exact Ev.neg (by omega) hr
 | d+1,i,h=>by
  refine Ev.succ ?_
  simp only [prng_Gen_Pick.l0]
  have hl:(rangeI i ++ List.replicate (d+1) (0:Int)).length=n:=by rw [List.length_append,rangeI_length,List.length_replicate];omega
  have hset:=set_pad (rangeI i) d (i:Int)
  rw [rangeI_length,← rangeI_succ] at hset
  rw [hl,Int.toNat_natCast,hset,wrap_succ i (by omega)]
  exact Ev.pos (by omega) (Ev.pos (by omega) (Ev.pos (by omega) (pick_l0 seed n kk hn u b r hr d (i+1) (by omega))))
theorem pick_ev (seed:ByteArray) (u n k:Int) (b:ByteArray) (hg:GenI seed u b) (hu:u≤900000000) :
  ∃ b',GenI seed (pickP seed u n k).2 b'∧Ev (fun K=>prng_Gen_Pick.f K seed u b n k) ((pickP seed u n k).1,seed,(pickP seed u n k).2,b'):=by
 unfold prng_Gen_Pick.f pickP
 have bad:Ev (fun K=>prng_Gen_Pick.j0 K n k true seed u b) ([],seed,u,b):=by
  refine Ev.succ ?_
  simp only [prng_Gen_Pick.j0]
  exact Ev.pos (by simp) (Ev.some_ rfl)
 by_cases h:0≤n∧n≤4096∧0≤k∧k≤n
 ·
  rw [if_pos h]
  obtain ⟨n,rfl⟩:=Int.eq_ofNat_of_zero_le h.1
  obtain ⟨k,rfl⟩:=Int.eq_ofNat_of_zero_le h.2.2.1
  rw [Int.toNat_natCast,Int.toNat_natCast]
  obtain ⟨b',g',e'⟩:=pick_l1 seed n k (by omega) (by omega) k 0 (rangeI n) u b (by omega) (rangeI_length n) hg (by omega)
  refine ⟨b',g',?_⟩
  refine Ev.neg (by omega) (Ev.neg (by omega) (Ev.neg (by omega) ?_))
  rw [decide_eq_false (by omega)]
  refine Ev.succ ?_
  simp only [prng_Gen_Pick.j0]
  rw [Int.toNat_natCast]
  refine Ev.neg (by simp) (Ev.pos (by omega) (Ev.pos (by omega) ?_))
  exact pick_l0 seed n k (by omega) u b _ e' n 0 (by omega)
 ·
  rw [if_neg h]
  refine ⟨b,hg,?_⟩
  by_cases h1:n < 0
  ·
   exact Ev.pos h1 bad
  refine Ev.neg h1 ?_
  by_cases h2:n > 4096
  ·
   exact Ev.pos h2 bad
  refine Ev.neg h2 ?_
  by_cases h3:k < 0
  ·
   exact Ev.pos h3 bad
  refine Ev.neg h3 ?_
  rw [decide_eq_true (by omega)]
  exact bad
theorem used_f (s:ByteArray) (u:Int) (b:ByteArray):prng_Gen_Used.f s u b=some (u,s,u,b):=rfl
theorem new_f (s:ByteArray) (h:s.size≤64):prng_New.f s=some (s,0,⟨#[]⟩):=by
 unfold prng_New.f
 exact if_neg (by omega)
theorem x_size:(⟨#[120]⟩:ByteArray).size=1:=rfl
theorem awake04:Ev (fun k=>mosaiclaw04_awake.f k) true:=by
 unfold mosaiclaw04_awake.f
 have hc:chooseP [4294967295,7] 10=(7,2):=by decide +kernel
 have h1:=choose_ev [4294967295,7] 10 (fun x hx=>by simp at hx;rcases hx with rfl|rfl <;> omega) (by simp)
 rw [hc] at h1
 refine Ev.bind h1 (Ev.call (new_f _ (by rw [x_size];omega)) ?_)
 obtain ⟨b',g',e'⟩:=pick_ev ⟨#[120]⟩ 0 1 1 ⟨#[]⟩ (GenI.start _ (by rw [x_size];omega) _) (by omega)
 refine Ev.bind e' ?_
 have hp:(pickP ⟨#[120]⟩ 0 1 1).1=[0]:=by
  have hb:=belowP_range ⟨#[120]⟩ 0 1 (by rw [x_size];omega) (by omega) (by omega)
  have hb1:=hb.2.1 (by omega) (by omega)
  have hz:(belowP ⟨#[120]⟩ 0 1).1=0:=by omega
  unfold pickP
  rw [if_pos (by omega)]
  have e1:(1:Int).toNat=1:=rfl
  have e2:((1:Nat):Int) - ((0:Nat):Int)=1:=rfl
  simp only [e1]
  rw [pickG,pickG,e2,hz]
  decide
 simp only []
 rw [hp]
 have hsz:=blockB_size ⟨#[120]⟩ 0 ⟨by omega,by omega,by rw [x_size];omega⟩
 refine Ev.pos (by simp) (Ev.pos (by simp) (Ev.pos (by simp) (Ev.pos (by simp) (Ev.pos (by decide) (Ev.bind (block_ev _ _ (by rw [x_size];omega)) (Ev.some_ ?_))))))
 rw [hsz]
 rfl
end Go.Proofs.Ytelcaepenfjloaa.Pure
/-! #### MaPrngBelow -/
/- The law PrngBelow, by hand: two generators of one seed. -/
namespace Go.Proofs.Ytelcaepenfjloaa.Print
open Go.RowKit Go.Proofs.YtelcaepenfjloaaW.PrintWords Go.Proofs.YtelcaepenfjloaaW.PrintLast Go.Proofs.YtelcaepenfjloaaW.PrintMore
open Go.Proofs.Ytelcaepenfjloaa.Pure (GenI belowP belowP_range below_ev word_ev wordI wordI_range wsL wsL_length wsL_U32 U32 chG chG_range chG_pos chooseP choose_ev bndN awake04 new_f used_f)
set_option linter.unusedVariables false
set_option linter.unusedSimpArgs false
def mosaiclaw04_PrngBelow.f (a0:ByteArray) (l1:List Int):Option Bool:=some true
/-- What stands at the head of a round: two generators of one seed at one place. -/
structure TwoG (w W:World) (g h:Nat) (s:ByteArray) (u u2:Int) (b1 b2:ByteArray):Prop where
 one:IsS130 w W g s u b1
 two:IsS130 w W h s u2 b2
 g1:GenI s u b1
 g2:GenI s u2 b2
 ne:g≠h
 bel:Below w.heap.size w W
theorem IsS_keep {w W W2:World} {g h:Nat} {s b:ByteArray} {u:Int} (hi:IsS130 w W h s u b) (hk:KeepBut W W2 g none) (hne:g≠h):IsS130 w W2 h s u b :=
 ⟨hk.blk hi.1 (Ne.symm hne) (by simp),hi.2⟩
theorem TwoG.below {w W W2:World} {g h:Nat} {s:ByteArray} {u u2:Int} {b1 b2:ByteArray} (t:TwoG w W g h s u u2 b1 b2) (hb:Below W.heap.size W W2):TwoG w W2 g h s u u2 b1 b2 :=
 ⟨IsS130.below t.one hb,IsS130.below t.two hb,t.g1,t.g2,t.ne,below_step t.bel hb⟩
theorem TwoG.grown {w W W2:World} {g h:Nat} {s:ByteArray} {u u2:Int} {b1 b2:ByteArray} (t:TwoG w W g h s u u2 b1 b2) {row:Option Nat} (hg:W.grownBy W2 row) (h1:some g≠row) (h2:some h≠row) (hb:Below w.heap.size w W2):TwoG w W2 g h s u u2 b1 b2 :=
 ⟨IsS130.grown t.one hg h1,IsS130.grown t.two hg h2,t.g1,t.g2,t.ne,hb⟩
theorem TwoG.drewN {w W:World} {g h:Nat} {s:ByteArray} {u u2:Int} {b1 b2:ByteArray} (t:TwoG w W g h s u u2 b1 b2) (n:Nat):TwoG w (W.drewN n) g h s u u2 b1 b2 :=
 t.below (Drawn0.below ⟨n,rfl⟩)
end Go.Proofs.Ytelcaepenfjloaa.Print
/-! #### Pr16 -/
namespace Go.Proofs.Ytelcaepenfjloaa.Print
open Go.RowKit Go.Proofs.YtelcaepenfjloaaW.PrintWords Go.Proofs.YtelcaepenfjloaaW.PrintLast Go.Proofs.YtelcaepenfjloaaW.PrintMore
attribute [local go_sem] max2_int min2_int max_two min_two max_three min_three max_four min_four
set_option linter.unusedVariables false
set_option linter.unusedSimpArgs false
/-! ### mosaiclaw04_PrngBlocks: function 16 -/
mutual
def mosaiclaw04_PrngBlocks.j0:Nat→ByteArray→Int→Bool→ByteArray→Int→ByteArray→Option (Bool)
 | 0,_,_,_,_,_,_=>none
 | k+1,x0,x2,x35,x494000,x494001,x494002=>if x35=true then (some false) else (mosaiclaw04_PrngBlocks.l0 k x2 0 x494000 x494001 x494002 x0 0)
def mosaiclaw04_PrngBlocks.l0:Nat→Int→Int→ByteArray→Int→ByteArray→ByteArray→Int→Option (Bool)
 | 0,_,_,_,_,_,_,_=>none
 | k+1,x2,x9,x494000,x494001,x494002,x498000,x498001=>if x9 < x2 then (mosaiclaw04_PrngBlocks.j2 k x2 x9 (decide (x9 < 40)) x494000 x494001 x494002 x498000 x498001) else (mosaiclaw04_PrngBlocks.j2 k x2 x9 false x494000 x494001 x494002 x498000 x498001)
def mosaiclaw04_PrngBlocks.j2:Nat→Int→Int→Bool→ByteArray→Int→ByteArray→ByteArray→Int→Option (Bool)
 | 0,_,_,_,_,_,_,_,_=>none
 | k+1,x2,x9,x48,x494000,x494001,x494002,x498000,x498001=>if x48=true then ((mosaicref04_Gen_Word.f k x498000 x498001).bind fun bt498=>((prng_Gen_Word.f k x494000 x494001 x494002).bind fun bt502=>(if (wrap64 (bt502.1))=bt498.2.2 then ((prng_Gen_Used.f bt502.2.1 bt502.2.2.1 bt502.2.2.2).bind fun bt506=>(if bt506.1=(wrap64 (x9+1)) then (mosaiclaw04_PrngBlocks.l0 k x2 (wrap64 (x9+1)) bt506.2.1 bt506.2.2.1 bt506.2.2.2 bt498.1 bt498.2.1) else (some false))) else (some false)))) else (some true)
end
def mosaiclaw04_PrngBlocks.f (k:Nat) (a0:ByteArray) (a1:Int) (a2:Int):Option (Bool):=if (a0.size:Int) > 100 then ((mosaiclaw04_awake.f k).bind fun t489=>(some t489)) else ((prng_New.f a0).bind fun bt490=>((mosaiclaw04_awake.f k).bind fun t494=>(if t494=true then ((prng_Block.f k a0 a1).bind fun t495=>((mosaicref04_Block.f k a0 a1).bind fun t496=>(if t495.toList=t496.toList then (mosaiclaw04_PrngBlocks.j0 k a0 a2 (false != (decide ((a0.size:Int) > 64))) bt490.1 bt490.2.1 bt490.2.2) else (mosaiclaw04_PrngBlocks.j0 k a0 a2 true bt490.1 bt490.2.1 bt490.2.2)))) else (mosaiclaw04_PrngBlocks.j0 k a0 a2 true bt490.1 bt490.2.1 bt490.2.2))))
theorem mosaiclaw04_PrngBlocks.mono_l:∀ k,(∀ y0 y1 y2 y3 y4 y5,LeO (mosaiclaw04_PrngBlocks.j0 k y0 y1 y2 y3 y4 y5) (mosaiclaw04_PrngBlocks.j0 (k+1) y0 y1 y2 y3 y4 y5))∧(∀ y0 y1 y2 y3 y4 y5 y6,LeO (mosaiclaw04_PrngBlocks.l0 k y0 y1 y2 y3 y4 y5 y6) (mosaiclaw04_PrngBlocks.l0 (k+1) y0 y1 y2 y3 y4 y5 y6))∧(∀ y0 y1 y2 y3 y4 y5 y6 y7,LeO (mosaiclaw04_PrngBlocks.j2 k y0 y1 y2 y3 y4 y5 y6 y7) (mosaiclaw04_PrngBlocks.j2 (k+1) y0 y1 y2 y3 y4 y5 y6 y7))
 | 0=>⟨fun _ _ _ _ _ _ r h=>by simp [mosaiclaw04_PrngBlocks.j0] at h,fun _ _ _ _ _ _ _ r h=>by simp [mosaiclaw04_PrngBlocks.l0] at h,fun _ _ _ _ _ _ _ _ r h=>by simp [mosaiclaw04_PrngBlocks.j2] at h⟩
 | k+1=>by
  obtain ⟨ih0,ih1,ih2⟩:=mosaiclaw04_PrngBlocks.mono_l k
  refine ⟨?_,?_,?_⟩
  ·
   intro y0 y1 y2 y3 y4 y5
   unfold mosaiclaw04_PrngBlocks.j0
   repeat' first
   | (with_reducible exact ih0 _ _ _ _ _ _)
   | (with_reducible exact ih1 _ _ _ _ _ _ _)
   | (with_reducible exact ih2 _ _ _ _ _ _ _ _)
   | (with_reducible exact mosaiclaw04_awake.mono _)
   | (with_reducible exact mosaicref04_Block.mono _ _ _)
   | (with_reducible exact mosaicref04_Gen_Word.mono _ _ _)
   | (with_reducible exact prng_Block.mono _ _ _)
   | (with_reducible exact prng_Gen_Word.mono _ _ _ _)
   | (with_reducible exact LeO.refl _)
   | (with_reducible exact LeO.none _)
   | (with_reducible refine LeO.ite ?_ ?_)
   | (with_reducible refine LeO.bind ?_ (fun _=>?_))
   | exact ih0 _ _ _ _ _ _
   | exact ih1 _ _ _ _ _ _ _
   | exact ih2 _ _ _ _ _ _ _ _
   | exact mosaiclaw04_awake.mono _
   | exact mosaicref04_Block.mono _ _ _
   | exact mosaicref04_Gen_Word.mono _ _ _
   | exact prng_Block.mono _ _ _
   | exact prng_Gen_Word.mono _ _ _ _
   | exact LeO.none _
   | refine LeO.ite ?_ ?_
   | refine LeO.bind ?_ (fun _=>?_)
  ·
   intro y0 y1 y2 y3 y4 y5 y6
   unfold mosaiclaw04_PrngBlocks.l0
   repeat' first
   | (with_reducible exact ih0 _ _ _ _ _ _)
   | (with_reducible exact ih1 _ _ _ _ _ _ _)
   | (with_reducible exact ih2 _ _ _ _ _ _ _ _)
   | (with_reducible exact mosaiclaw04_awake.mono _)
   | (with_reducible exact mosaicref04_Block.mono _ _ _)
   | (with_reducible exact mosaicref04_Gen_Word.mono _ _ _)
   | (with_reducible exact prng_Block.mono _ _ _)
   | (with_reducible exact prng_Gen_Word.mono _ _ _ _)
   | (with_reducible exact LeO.refl _)
   | (with_reducible exact LeO.none _)
   | (with_reducible refine LeO.ite ?_ ?_)
   | (with_reducible refine LeO.bind ?_ (fun _=>?_))
   | exact ih0 _ _ _ _ _ _
   | exact ih1 _ _ _ _ _ _ _
   | exact ih2 _ _ _ _ _ _ _ _
   | exact mosaiclaw04_awake.mono _
   | exact mosaicref04_Block.mono _ _ _
   | exact mosaicref04_Gen_Word.mono _ _ _
   | exact prng_Block.mono _ _ _
   | exact prng_Gen_Word.mono _ _ _ _
   | exact LeO.none _
   | refine LeO.ite ?_ ?_
   | refine LeO.bind ?_ (fun _=>?_)
  ·
   intro y0 y1 y2 y3 y4 y5 y6 y7
   unfold mosaiclaw04_PrngBlocks.j2
   repeat' first
   | (with_reducible exact ih0 _ _ _ _ _ _)
   | (with_reducible exact ih1 _ _ _ _ _ _ _)
   | (with_reducible exact ih2 _ _ _ _ _ _ _ _)
   | (with_reducible exact mosaiclaw04_awake.mono _)
   | (with_reducible exact mosaicref04_Block.mono _ _ _)
   | (with_reducible exact mosaicref04_Gen_Word.mono _ _ _)
   | (with_reducible exact prng_Block.mono _ _ _)
   | (with_reducible exact prng_Gen_Word.mono _ _ _ _)
   | (with_reducible exact LeO.refl _)
   | (with_reducible exact LeO.none _)
   | (with_reducible refine LeO.ite ?_ ?_)
   | (with_reducible refine LeO.bind ?_ (fun _=>?_))
   | exact ih0 _ _ _ _ _ _
   | exact ih1 _ _ _ _ _ _ _
   | exact ih2 _ _ _ _ _ _ _ _
   | exact mosaiclaw04_awake.mono _
   | exact mosaicref04_Block.mono _ _ _
   | exact mosaicref04_Gen_Word.mono _ _ _
   | exact prng_Block.mono _ _ _
   | exact prng_Gen_Word.mono _ _ _ _
   | exact LeO.none _
   | refine LeO.ite ?_ ?_
   | refine LeO.bind ?_ (fun _=>?_)
theorem mosaiclaw04_PrngBlocks.mono:∀ a0 a1 a2 k,LeO (mosaiclaw04_PrngBlocks.f k a0 a1 a2) (mosaiclaw04_PrngBlocks.f (k+1) a0 a1 a2):=by
 intro a0 a1 a2 k
 obtain ⟨ih0,ih1,ih2⟩:=mosaiclaw04_PrngBlocks.mono_l k
 unfold mosaiclaw04_PrngBlocks.f
 repeat' first
   | (with_reducible exact ih0 _ _ _ _ _ _)
   | (with_reducible exact ih1 _ _ _ _ _ _ _)
   | (with_reducible exact ih2 _ _ _ _ _ _ _ _)
   | (with_reducible exact mosaiclaw04_awake.mono _)
   | (with_reducible exact mosaicref04_Block.mono _ _ _)
   | (with_reducible exact mosaicref04_Gen_Word.mono _ _ _)
   | (with_reducible exact prng_Block.mono _ _ _)
   | (with_reducible exact prng_Gen_Word.mono _ _ _ _)
   | (with_reducible exact LeO.refl _)
   | (with_reducible exact LeO.none _)
   | (with_reducible refine LeO.ite ?_ ?_)
   | (with_reducible refine LeO.bind ?_ (fun _=>?_))
   | exact ih0 _ _ _ _ _ _
   | exact ih1 _ _ _ _ _ _ _
   | exact ih2 _ _ _ _ _ _ _ _
   | exact mosaiclaw04_awake.mono _
   | exact mosaicref04_Block.mono _ _ _
   | exact mosaicref04_Gen_Word.mono _ _ _
   | exact prng_Block.mono _ _ _
   | exact prng_Gen_Word.mono _ _ _ _
   | exact LeO.none _
   | refine LeO.ite ?_ ?_
   | refine LeO.bind ?_ (fun _=>?_)
def mosaiclaw04_PrngBlocks.T12:Bool×List (List Nat×List Nat):=(true,[([],[]),([0],[0]),([1],[1]),([],[]),([3],[3]),([2,4],[2,4]),([5,1],[5]),([6],[6]),([7,6,6],[6,7]),([6],[6]),([9,6],[6,9]),([8,10,6],[6,8,10]),([6,11],[6,11])])
def mosaiclaw04_PrngBlocks.B12:List Nat:=[0,1,3,0,8,31,63,127,255,127,639,2047,4095]
theorem mosaiclaw04_PrngBlocks.tab12:rtab .any (opsOf Try.f16 12)=mosaiclaw04_PrngBlocks.T12:=by kernel_rfl
theorem mosaiclaw04_PrngBlocks.bits12:waitsOk mosaiclaw04_PrngBlocks.T12.2 mosaiclaw04_PrngBlocks.B12=true:=by kernel_rfl
set_option maxHeartbeats 8000000 in
set_option maxRecDepth 100000 in
theorem mosaiclaw04_PrngBlocks.callsT (k:Nat) (a0:ByteArray) (a1:Int) (a2:Int) (w:World) (h:mosaiclaw04_PrngBlocks.f k a0 a1 a2=some true) :
  Calls Try.prog 16 #[.string a0,.int .i64 a1,.int .i64 a2] w fun e w'=>e=.returned (.bool true)∧Below w.heap.size w w':=by
 have hu83:=Try.underlying83
 have hu85:=Try.underlying85
 have HB:=Aside0.mk (Below.refl w.heap.size w)
 have H:(if (a0.size:Int) > 100 then ((mosaiclaw04_awake.f k).bind fun t489=>(some t489)) else ((prng_New.f a0).bind fun bt490=>((mosaiclaw04_awake.f k).bind fun t494=>(if t494=true then ((prng_Block.f k a0 a1).bind fun t495=>((mosaicref04_Block.f k a0 a1).bind fun t496=>(if t495.toList=t496.toList then (mosaiclaw04_PrngBlocks.j0 k a0 a2 (false != (decide ((a0.size:Int) > 64))) bt490.1 bt490.2.1 bt490.2.2) else (mosaiclaw04_PrngBlocks.j0 k a0 a2 true bt490.1 bt490.2.1 bt490.2.2)))) else (mosaiclaw04_PrngBlocks.j0 k a0 a2 true bt490.1 bt490.2.1 bt490.2.2)))))=some true:=h
 clear h
 by_cases c4:(a0.size:Int) > 100
 ·
  rw [if_pos c4] at H
  have c4b0:decide (100 < (a0.size:Int))=true:=decide_eq_true c4
  have c4b1:decide (100 < a0.size)=true:=decide_eq_true (by omega)
  clear c4
  replace H:=Option.bind_eq_some_iff.mp H
  obtain ⟨t489,A50,H⟩:=H
  replace H:(some t489)=some true:=H
  have A5:=Aside0.mk A50
  clear A50
  obtain rfl:=Option.some.inj H
  go_enter Try.func16,Try.ntmps16
  go_wp2_with (first|((with_reducible refine gate_callee (f:=59) rfl ?_);refine goesL_ (some 14) rfl rfl Try.func59 (by kernel_rfl) rfl #[] rfl (by (try simp only [List.map_toArray,List.map_cons,List.map_nil]);first|done|rfl|(simp only [List.length_drop,List.length_take];rfl)) ?_;(with_reducible refine (mosaiclaw04_awake.calls k  true _ A5.out).mono ?_);rintro e w6 ⟨rfl,hb⟩;refine ⟨_,rfl,?_⟩;have n0_:=Aside0.mk (below_step (by repeat (first|(with_reducible first|exact HB.out|apply below_alloc|apply pw_below_drewN|apply below_drew1)|exact HB.out)) hb);clear HB;have HB:=n0_;clear n0_;(try clear hb);(try clear hb2);(try clear hk);(try clear hi)))
  go_ret
  exact ⟨by first|rfl|(simp [errW_none,errW_some] <;> rfl)|(simp [*,errW_none,errW_some] <;> rfl),by repeat (first|(with_reducible first|exact HB.out|apply below_alloc|apply pw_below_drewN|apply below_drew1)|exact HB.out)⟩
 ·
  rw [if_neg c4] at H
  have c4b0:decide (100 < (a0.size:Int))=false:=decide_eq_false c4
  have c4b1:decide (100 < a0.size)=false:=decide_eq_false (by omega)
  clear c4
  replace H:=Option.bind_eq_some_iff.mp H
  obtain ⟨⟨t490,t491,t492⟩,A70,H⟩:=H
  replace H:((mosaiclaw04_awake.f k).bind fun t494=>(if t494=true then ((prng_Block.f k a0 a1).bind fun t495=>((mosaicref04_Block.f k a0 a1).bind fun t496=>(if t495.toList=t496.toList then (mosaiclaw04_PrngBlocks.j0 k a0 a2 (false != (decide ((a0.size:Int) > 64))) t490 t491 t492) else (mosaiclaw04_PrngBlocks.j0 k a0 a2 true t490 t491 t492)))) else (mosaiclaw04_PrngBlocks.j0 k a0 a2 true t490 t491 t492)))=some true:=H
  have A7:=Aside0.mk A70
  clear A70
  have HC8:=Aside0.mk H
  clear H
  go_enter Try.func16,Try.ntmps16
  go_upto_region 4 with (first|((with_reducible refine gate_callee (f:=62) rfl ?_);refine goesL_ (some 16) rfl rfl Try.func62 (by kernel_rfl) rfl #[.string a0] rfl (by (try simp only [List.map_toArray,List.map_cons,List.map_nil]);first|done|rfl|(simp only [List.length_drop,List.length_take];rfl)) ?_;(with_reducible refine (prng_New.calls a0 t490 t491 t492 w _ ?side1 A7.out).mono ?_);(case side1=>repeat (first|(with_reducible first|exact HB.out|apply below_alloc|apply pw_below_drewN|apply below_drew1)|exact HB.out));rintro e w9 ⟨g493,rfl,hi,hb,hb2⟩;refine ⟨_,rfl,?_⟩;have n0_:=Aside0.mk (hb);have n1_:=Aside0.mk (hi);clear HB;have HB:=n0_;have HI493:=n1_;clear n0_ n1_;(try clear hb);(try clear hb2);(try clear hk);(try clear hi)))
  (try simp only [Act.put,List.setIfInBounds_toArray,List.set_cons_zero,List.set_cons_succ])
  go_cut [35] (fun v35 wc=>∃ (kq:Nat) (x35_7:Bool),v35=.bool x35_7∧Aside0 (mosaiclaw04_PrngBlocks.j0 kq a0 a2 x35_7 t490 t491 t492=some true)∧Aside0 (kq≤k)∧Aside0 (IsS130 w wc g493 t490 t491 t492)∧Aside0 (Below w.heap.size w wc))
  case first =>
   have H:=HC8.out
   clear HC8
   replace H:=Option.bind_eq_some_iff.mp H
   obtain ⟨t494,A100,H⟩:=H
   replace H:(if t494=true then ((prng_Block.f k a0 a1).bind fun t495=>((mosaicref04_Block.f k a0 a1).bind fun t496=>(if t495.toList=t496.toList then (mosaiclaw04_PrngBlocks.j0 k a0 a2 (false != (decide ((a0.size:Int) > 64))) t490 t491 t492) else (mosaiclaw04_PrngBlocks.j0 k a0 a2 true t490 t491 t492)))) else (mosaiclaw04_PrngBlocks.j0 k a0 a2 true t490 t491 t492))=some true:=H
   have A10:=Aside0.mk A100
   clear A100
   by_cases c11:t494=true
   ·
    subst c11
    have H1:((prng_Block.f k a0 a1).bind fun t495=>((mosaicref04_Block.f k a0 a1).bind fun t496=>(if t495.toList=t496.toList then (mosaiclaw04_PrngBlocks.j0 k a0 a2 (false != (decide ((a0.size:Int) > 64))) t490 t491 t492) else (mosaiclaw04_PrngBlocks.j0 k a0 a2 true t490 t491 t492))))=some true:=by rw [if_pos rfl] at H;exact H
    clear H
    have H:=H1
    clear H1
    replace H:=Option.bind_eq_some_iff.mp H
    obtain ⟨t495,A120,H⟩:=H
    replace H:((mosaicref04_Block.f k a0 a1).bind fun t496=>(if t495.toList=t496.toList then (mosaiclaw04_PrngBlocks.j0 k a0 a2 (false != (decide ((a0.size:Int) > 64))) t490 t491 t492) else (mosaiclaw04_PrngBlocks.j0 k a0 a2 true t490 t491 t492)))=some true:=H
    have A12:=Aside0.mk A120
    clear A120
    replace H:=Option.bind_eq_some_iff.mp H
    obtain ⟨t496,A130,H⟩:=H
    replace H:(if t495.toList=t496.toList then (mosaiclaw04_PrngBlocks.j0 k a0 a2 (false != (decide ((a0.size:Int) > 64))) t490 t491 t492) else (mosaiclaw04_PrngBlocks.j0 k a0 a2 true t490 t491 t492))=some true:=H
    have A13:=Aside0.mk A130
    clear A130
    by_cases c14:t495.toList=t496.toList
    ·
     rw [if_pos c14] at H
     have c14b0:(t495.toList == t496.toList)=true:=beq_iff_eq.mpr c14
     have c14b1:(t495.toList != t496.toList)=false:=bne_eq_false_iff_eq.mpr c14
     clear c14
     (first|rw [c14b0]|(simp only [i64_w,i32_w];rw [c14b0])|skip)
     have H':=Aside0.mk H
     clear H
     go_wp2_with (first|((with_reducible refine gate_callee (f:=59) rfl ?_);refine goesL_ (some 17) rfl rfl Try.func59 (by kernel_rfl) rfl #[] rfl (by (try simp only [List.map_toArray,List.map_cons,List.map_nil]);first|done|rfl|(simp only [List.length_drop,List.length_take];rfl)) ?_;(with_reducible refine (mosaiclaw04_awake.calls k  true _ A10.out).mono ?_);rintro e w15 ⟨rfl,hb⟩;refine ⟨_,rfl,?_⟩;have n0_:=Aside0.mk (IsS130.below (by repeat (first|(with_reducible first|exact HI493.out|apply IsS130.alloc|apply IsS130.drewN|apply IsS130.drew|apply IsS130.set_0|apply IsS130.set_1|apply IsS130.set_2)|exact HI493.out)) hb);have n1_:=Aside0.mk (below_step (by repeat (first|(with_reducible first|exact HB.out|apply below_alloc|apply pw_below_drewN|apply below_drew1|refine below_set ?_ (IsS130.ge HI493.out))|exact HB.out)) hb);clear HI493;clear HB;have HI493:=n0_;have HB:=n1_;clear n0_ n1_;(try clear hb);(try clear hb2);(try clear hk);(try clear hi))|(go_at_call 64;(with_reducible refine (prng_Block.calls k a0 a1 t495 _ A12.out).mono ?_);rintro e w16 ⟨rfl,hb⟩;have n0_:=Aside0.mk (IsS130.below (by repeat (first|(with_reducible first|exact HI493.out|apply IsS130.alloc|apply IsS130.drewN|apply IsS130.drew|apply IsS130.set_0|apply IsS130.set_1|apply IsS130.set_2)|exact HI493.out)) hb);have n1_:=Aside0.mk (below_step (by repeat (first|(with_reducible first|exact HB.out|apply below_alloc|apply pw_below_drewN|apply below_drew1|refine below_set ?_ (IsS130.ge HI493.out))|exact HB.out)) hb);clear HI493;clear HB;have HI493:=n0_;have HB:=n1_;clear n0_ n1_;(try clear hb);(try clear hb2);(try clear hk);(try clear hi))|(go_at_call 65;(with_reducible refine (mosaicref04_Block.calls k a0 a1 t496 _ A13.out).mono ?_);rintro e w17 ⟨rfl,hb⟩;have n0_:=Aside0.mk (IsS130.below (by repeat (first|(with_reducible first|exact HI493.out|apply IsS130.alloc|apply IsS130.drewN|apply IsS130.drew|apply IsS130.set_0|apply IsS130.set_1|apply IsS130.set_2)|exact HI493.out)) hb);have n1_:=Aside0.mk (below_step (by repeat (first|(with_reducible first|exact HB.out|apply below_alloc|apply pw_below_drewN|apply below_drew1|refine below_set ?_ (IsS130.ge HI493.out))|exact HB.out)) hb);clear HI493;clear HB;have HI493:=n0_;have HB:=n1_;clear n0_ n1_;(try clear hb);(try clear hb2);(try clear hk);(try clear hi)))
     go_meet
     case rel=>exact ⟨_,((false != (decide ((a0.size:Int) > 64)))),(by first|rfl|(simp;done)|(simp [*];done)),H',⟨by first|omega|exact Nat.le_refl _⟩,⟨by repeat (first|(with_reducible first|exact HI493.out|apply IsS130.alloc|apply IsS130.drewN|apply IsS130.drew|apply IsS130.set_0|apply IsS130.set_1|apply IsS130.set_2)|exact HI493.out)⟩,⟨by repeat (first|(with_reducible first|exact HB.out|apply below_alloc|apply pw_below_drewN|apply below_drew1|refine below_set ?_ (IsS130.ge HI493.out))|exact HB.out)⟩⟩
    ·
     rw [if_neg c14] at H
     have c14b0:(t495.toList == t496.toList)=false:=beq_eq_false_iff_ne.mpr c14
     have c14b1:(t495.toList != t496.toList)=true:=bne_iff_ne.mpr c14
     (first|rw [c14b0]|(simp only [i64_w,i32_w];rw [c14b0])|skip)
     have H':=Aside0.mk H
     clear H
     go_wp2_with (first|((with_reducible refine gate_callee (f:=59) rfl ?_);refine goesL_ (some 17) rfl rfl Try.func59 (by kernel_rfl) rfl #[] rfl (by (try simp only [List.map_toArray,List.map_cons,List.map_nil]);first|done|rfl|(simp only [List.length_drop,List.length_take];rfl)) ?_;(with_reducible refine (mosaiclaw04_awake.calls k  true _ A10.out).mono ?_);rintro e w18 ⟨rfl,hb⟩;refine ⟨_,rfl,?_⟩;have n0_:=Aside0.mk (IsS130.below (by repeat (first|(with_reducible first|exact HI493.out|apply IsS130.alloc|apply IsS130.drewN|apply IsS130.drew|apply IsS130.set_0|apply IsS130.set_1|apply IsS130.set_2)|exact HI493.out)) hb);have n1_:=Aside0.mk (below_step (by repeat (first|(with_reducible first|exact HB.out|apply below_alloc|apply pw_below_drewN|apply below_drew1|refine below_set ?_ (IsS130.ge HI493.out))|exact HB.out)) hb);clear HI493;clear HB;have HI493:=n0_;have HB:=n1_;clear n0_ n1_;(try clear hb);(try clear hb2);(try clear hk);(try clear hi))|(go_at_call 64;(with_reducible refine (prng_Block.calls k a0 a1 t495 _ A12.out).mono ?_);rintro e w19 ⟨rfl,hb⟩;have n0_:=Aside0.mk (IsS130.below (by repeat (first|(with_reducible first|exact HI493.out|apply IsS130.alloc|apply IsS130.drewN|apply IsS130.drew|apply IsS130.set_0|apply IsS130.set_1|apply IsS130.set_2)|exact HI493.out)) hb);have n1_:=Aside0.mk (below_step (by repeat (first|(with_reducible first|exact HB.out|apply below_alloc|apply pw_below_drewN|apply below_drew1|refine below_set ?_ (IsS130.ge HI493.out))|exact HB.out)) hb);clear HI493;clear HB;have HI493:=n0_;have HB:=n1_;clear n0_ n1_;(try clear hb);(try clear hb2);(try clear hk);(try clear hi))|(go_at_call 65;(with_reducible refine (mosaicref04_Block.calls k a0 a1 t496 _ A13.out).mono ?_);rintro e w20 ⟨rfl,hb⟩;have n0_:=Aside0.mk (IsS130.below (by repeat (first|(with_reducible first|exact HI493.out|apply IsS130.alloc|apply IsS130.drewN|apply IsS130.drew|apply IsS130.set_0|apply IsS130.set_1|apply IsS130.set_2)|exact HI493.out)) hb);have n1_:=Aside0.mk (below_step (by repeat (first|(with_reducible first|exact HB.out|apply below_alloc|apply pw_below_drewN|apply below_drew1|refine below_set ?_ (IsS130.ge HI493.out))|exact HB.out)) hb);clear HI493;clear HB;have HI493:=n0_;have HB:=n1_;clear n0_ n1_;(try clear hb);(try clear hb2);(try clear hk);(try clear hi)))
     go_meet
     case rel=>exact ⟨_,(true),(by first|rfl|(simp;done)|(simp [*];done)),H',⟨by first|omega|exact Nat.le_refl _⟩,⟨by repeat (first|(with_reducible first|exact HI493.out|apply IsS130.alloc|apply IsS130.drewN|apply IsS130.drew|apply IsS130.set_0|apply IsS130.set_1|apply IsS130.set_2)|exact HI493.out)⟩,⟨by repeat (first|(with_reducible first|exact HB.out|apply below_alloc|apply pw_below_drewN|apply below_drew1|refine below_set ?_ (IsS130.ge HI493.out))|exact HB.out)⟩⟩
   ·
    replace c11:=Bool.eq_false_iff.mpr c11
    subst c11
    have H1:(mosaiclaw04_PrngBlocks.j0 k a0 a2 true t490 t491 t492)=some true:=by rw [if_neg (show ¬ (false=true) by decide)] at H;exact H
    clear H
    have H:=H1
    clear H1
    have H':=Aside0.mk H
    clear H
    go_wp2_with (first|((with_reducible refine gate_callee (f:=59) rfl ?_);refine goesL_ (some 17) rfl rfl Try.func59 (by kernel_rfl) rfl #[] rfl (by (try simp only [List.map_toArray,List.map_cons,List.map_nil]);first|done|rfl|(simp only [List.length_drop,List.length_take];rfl)) ?_;(with_reducible refine (mosaiclaw04_awake.calls k  false _ A10.out).mono ?_);rintro e w21 ⟨rfl,hb⟩;refine ⟨_,rfl,?_⟩;have n0_:=Aside0.mk (IsS130.below (by repeat (first|(with_reducible first|exact HI493.out|apply IsS130.alloc|apply IsS130.drewN|apply IsS130.drew|apply IsS130.set_0|apply IsS130.set_1|apply IsS130.set_2)|exact HI493.out)) hb);have n1_:=Aside0.mk (below_step (by repeat (first|(with_reducible first|exact HB.out|apply below_alloc|apply pw_below_drewN|apply below_drew1|refine below_set ?_ (IsS130.ge HI493.out))|exact HB.out)) hb);clear HI493;clear HB;have HI493:=n0_;have HB:=n1_;clear n0_ n1_;(try clear hb);(try clear hb2);(try clear hk);(try clear hi)))
    go_meet
    case rel=>exact ⟨_,(true),(by first|rfl|(simp;done)|(simp [*];done)),H',⟨by first|omega|exact Nat.le_refl _⟩,⟨by repeat (first|(with_reducible first|exact HI493.out|apply IsS130.alloc|apply IsS130.drewN|apply IsS130.drew|apply IsS130.set_0|apply IsS130.set_1|apply IsS130.set_2)|exact HI493.out)⟩,⟨by repeat (first|(with_reducible first|exact HB.out|apply below_alloc|apply pw_below_drewN|apply below_drew1|refine below_set ?_ (IsS130.ge HI493.out))|exact HB.out)⟩⟩
  case rest =>
   clear HC8
   try clear c1
   try clear p2
   try clear c4
   try clear c4b0
   try clear c4b1
   try clear c5
   try clear c6
   try clear c11
   try clear c14
   try clear c14b0
   try clear c14b1
   try clear c16
   obtain ⟨kq,x35_7,rfl,HA,HJ7,HI493,HB⟩:=hcut
   cases kq with
   | zero=>exact absurd HA.out (by simp [mosaiclaw04_PrngBlocks.j0])
   | succ kj7 =>
    have H:=HA.out
    clear HA
    simp only [mosaiclaw04_PrngBlocks.j0] at H
    by_cases c22:x35_7=true
    ·
     subst c22
     have H1:(some false)=some true:=by rw [if_pos rfl] at H;exact H
     clear H
     have H:=H1
     clear H1
     exact absurd (Option.some.inj H) (by simp)
    ·
     replace c22:=Bool.eq_false_iff.mpr c22
     subst c22
     have H1:(mosaiclaw04_PrngBlocks.l0 kj7 a2 0 t490 t491 t492 a0 0)=some true:=by rw [if_neg (show ¬ (false=true) by decide)] at H;exact H
     clear H
     have H:=H1
     clear H1
     have H':=Aside0.mk H
     clear H
     go_wp2_with (first|((with_reducible refine gate_dst (N:=8) rfl ?_);(try (refine gate_guard (by rfl) ?_;dsimp only));refine box_event ?hg (N:=8) ?hd (cs:=#[.string (⟨#[]⟩:ByteArray),.int .i64 0]) (t:=83) ?hr ?_;(case hd=>rfl);(case hg=>rfl);(case hr=>first|(go_simp;done)|(go_simp;rfl));intro gb497 hg w23 hbox hb;have n0_:=Aside0.mk (IsS130.below (by repeat (first|(with_reducible first|exact HI493.out|apply IsS130.alloc|apply IsS130.drewN|apply IsS130.drew|apply IsS130.set_0|apply IsS130.set_1|apply IsS130.set_2)|exact HI493.out)) hb);have n1_:=Aside0.mk (below_step (by repeat (first|(with_reducible first|exact HB.out|apply below_alloc|apply pw_below_drewN|apply below_drew1|refine below_set ?_ (IsS130.ge HI493.out))|exact HB.out)) hb);have n2_:=Aside0.mk (hbox);have n3_:=Aside0.mk ((by rw [hg];exact (below_size (by repeat (first|(with_reducible first|exact HB.out|apply below_alloc|apply pw_below_drewN|apply below_drew1|refine below_set ?_ (IsS130.ge HI493.out))|exact HB.out))):w.heap.size≤gb497));have n4_:=Aside0.mk ((by rw [hg];exact (below_size (by repeat (first|(with_reducible first|exact HB.out|apply below_alloc|apply pw_below_drewN|apply below_drew1|refine below_set ?_ (IsS130.ge HI493.out))|exact HB.out))):w.heap.size≤gb497));have n5_:=Aside0.mk ((by rw [hg];exact Nat.ne_of_lt (IsS130.lt (show IsS130 w _ g493 t490 t491 t492 from by repeat (first|(with_reducible first|exact HI493.out|apply IsS130.alloc|apply IsS130.drewN|apply IsS130.drew|apply IsS130.set_0|apply IsS130.set_1|apply IsS130.set_2)|exact HI493.out))):g493≠gb497));have n6_:=Aside0.mk ((by rw [hg];exact Nat.ne_of_gt (IsS130.lt (show IsS130 w _ g493 t490 t491 t492 from by repeat (first|(with_reducible first|exact HI493.out|apply IsS130.alloc|apply IsS130.drewN|apply IsS130.drew|apply IsS130.set_0|apply IsS130.set_1|apply IsS130.set_2)|exact HI493.out))):gb497≠g493));clear HI493;clear HB;have HI493:=n0_;have HB:=n1_;have BK497:=n2_;have GW497:=n3_;have GE497:=n4_;have NB493_497:=n5_;have NB497_493:=n6_;clear n0_ n1_ n2_ n3_ n4_ n5_ n6_;clear hb hbox hg;have hnb24:=NB497_493.out;have hnc24:=NB493_497.out;have hcz25_0:w23.cell? ⟨gb497,0,none⟩=some (.string (⟨#[]⟩:ByteArray)):=(blk_cell BK497.out 0).trans rfl;have hcz25_1:w23.cell? ⟨gb497,1,none⟩=some (.int .i64 0):=(blk_cell BK497.out 1).trans rfl;have hfz25_0:=blk_frozen BK497.out 0;have hfz25_1:=blk_frozen BK497.out 1))
     go_loopg [9] kj7 (fun kq v9 w'=>∃ (x9_2:Int) (x494000_2:ByteArray) (x494001_2:Int) (x494002_2:ByteArray) (x498000_2:ByteArray) (x498001_2:Int),v9=.int .i64 x9_2∧Aside0 (mosaiclaw04_PrngBlocks.l0 kq a2 x9_2 x494000_2 x494001_2 x494002_2 x498000_2 x498001_2=some true)∧Aside0 (kq≤kj7)∧Aside0 (w'.heap[gb497]?=some (.cells #[.string x498000_2,.int .i64 x498001_2] 83 (0,0)))∧Aside0 (IsS130 w w' g493 x494000_2 x494001_2 x494002_2)∧Aside0 (Below w.heap.size w w'))
     case atStart=>exact ⟨(0),(t490),(t491),(t492),(a0),(0),(by first|rfl|(simp;done)|(simp [*];done)),H',⟨Nat.le_refl _⟩,⟨by (with_reducible repeat (first|refine blk_drewN ?_ _|refine blk_drew ?_|refine blk_alloc ?_ _));refine blk_put (cs:=#[.string a0,.int .i64 0]) ?_ 1 _ rfl;(with_reducible repeat (first|refine blk_drewN ?_ _|refine blk_drew ?_|refine blk_alloc ?_ _));refine blk_put (cs:=#[.string (⟨#[]⟩:ByteArray),.int .i64 0]) ?_ 0 _ rfl;(with_reducible repeat (first|refine blk_drewN ?_ _|refine blk_drew ?_|refine blk_alloc ?_ _));exact BK497.out⟩,⟨by repeat (first|(with_reducible first|exact HI493.out|apply IsS130.alloc|apply IsS130.drewN|apply IsS130.drew|apply IsS130.set_0|apply IsS130.set_1|apply IsS130.set_2|refine IsS130.far ?_ NB493_497.out _)|exact HI493.out)⟩,⟨by repeat (first|(with_reducible first|exact HB.out|apply below_alloc|apply pw_below_drewN|apply below_drew1|refine below_set ?_ (IsS130.ge HI493.out)|refine below_set ?_ GE497.out)|exact HB.out)⟩⟩
     case round =>
      clear H'
      try clear c1
      try clear c2
      try clear p2
      try clear c4
      try clear c4b0
      try clear c4b1
      try clear c5
      try clear c6
      try clear c11
      try clear c14
      try clear c14b0
      try clear c14b1
      try clear c16
      try clear c22
      try clear c24
      try clear hcz25_0
      try clear hcz25_1
      try clear hfz25_0
      try clear hfz25_1
      try clear p2
      obtain ⟨x9_2,x494000_2,x494001_2,x494002_2,x498000_2,x498001_2,rfl,HA,HK2,BK497,HI493,HB⟩:=hrel
      cases gk with
      | zero=>exact absurd HA.out (by simp [mosaiclaw04_PrngBlocks.l0])
      | succ k2 =>
       have H:=HA.out
       clear HA
       simp only [mosaiclaw04_PrngBlocks.l0] at H
       have HC26:=Aside0.mk H
       clear H
       go_upto_region 8 with (fail)
       go_cut [48] (fun v48 wc=>∃ (kq:Nat) (x48_25:Bool),v48=.bool x48_25∧Aside0 (mosaiclaw04_PrngBlocks.j2 kq a2 x9_2 x48_25 x494000_2 x494001_2 x494002_2 x498000_2 x498001_2=some true)∧Aside0 (kq≤k2)∧Aside0 (wc.heap[gb497]?=some (.cells #[.string x498000_2,.int .i64 x498001_2] 83 (0,0)))∧Aside0 (IsS130 w wc g493 x494000_2 x494001_2 x494002_2)∧Aside0 (Below w.heap.size w wc))
       case first =>
        have H:=HC26.out
        clear HC26
        by_cases c27:x9_2 < a2
        ·
         rw [if_pos c27] at H
         have c27b0:decide (x9_2 < a2)=true:=decide_eq_true c27
         clear c27
         (first|rw [c27b0]|(simp only [i64_w,i32_w];rw [c27b0])|skip)
         have H':=Aside0.mk H
         clear H
         go_wp2
         go_meet
         case rel=>exact ⟨_,(decide (x9_2 < 40)),(by first|rfl|(simp;done)|(simp [*];done)),H',⟨by have:=HJ7.out;have:=HK2.out;first|omega|exact Nat.le_refl _⟩,⟨by (with_reducible repeat (first|refine blk_drewN ?_ _|refine blk_drew ?_|refine blk_alloc ?_ _));exact BK497.out⟩,⟨by repeat (first|(with_reducible first|exact HI493.out|apply IsS130.alloc|apply IsS130.drewN|apply IsS130.drew|apply IsS130.set_0|apply IsS130.set_1|apply IsS130.set_2|refine IsS130.far ?_ NB493_497.out _)|exact HI493.out)⟩,⟨by repeat (first|(with_reducible first|exact HB.out|apply below_alloc|apply pw_below_drewN|apply below_drew1|refine below_set ?_ (IsS130.ge HI493.out)|refine below_set ?_ GE497.out)|exact HB.out)⟩⟩
        ·
         rw [if_neg c27] at H
         have c27b0:decide (x9_2 < a2)=false:=decide_eq_false c27
         clear c27
         (first|rw [c27b0]|(simp only [i64_w,i32_w];rw [c27b0])|skip)
         have H':=Aside0.mk H
         clear H
         go_wp2
         go_meet
         case rel=>exact ⟨_,(false),(by first|rfl|(simp;done)|(simp [*];done)),H',⟨by have:=HJ7.out;have:=HK2.out;first|omega|exact Nat.le_refl _⟩,⟨by (with_reducible repeat (first|refine blk_drewN ?_ _|refine blk_drew ?_|refine blk_alloc ?_ _));exact BK497.out⟩,⟨by repeat (first|(with_reducible first|exact HI493.out|apply IsS130.alloc|apply IsS130.drewN|apply IsS130.drew|apply IsS130.set_0|apply IsS130.set_1|apply IsS130.set_2|refine IsS130.far ?_ NB493_497.out _)|exact HI493.out)⟩,⟨by repeat (first|(with_reducible first|exact HB.out|apply below_alloc|apply pw_below_drewN|apply below_drew1|refine below_set ?_ (IsS130.ge HI493.out)|refine below_set ?_ GE497.out)|exact HB.out)⟩⟩
       case rest =>
        clear HC26
        try clear c1
        try clear c2
        try clear p2
        try clear c4
        try clear c4b0
        try clear c4b1
        try clear c5
        try clear c6
        try clear c11
        try clear c14
        try clear c14b0
        try clear c14b1
        try clear c16
        try clear c22
        try clear c24
        try clear c27
        try clear c27b0
        try clear hcz25_0
        try clear hcz25_1
        try clear hfz25_0
        try clear hfz25_1
        try clear p2
        obtain ⟨kq,x48_25,rfl,HA,HJ25,BK497,HI493,HB⟩:=hcut
        cases kq with
        | zero=>exact absurd HA.out (by simp [mosaiclaw04_PrngBlocks.j2])
        | succ kj25 =>
         have H:=HA.out
         clear HA
         simp only [mosaiclaw04_PrngBlocks.j2] at H
         by_cases c28:x48_25=true
         ·
          subst c28
          have H1:((mosaicref04_Gen_Word.f kj25 x498000_2 x498001_2).bind fun bt498=>((prng_Gen_Word.f kj25 x494000_2 x494001_2 x494002_2).bind fun bt502=>(if (wrap64 (bt502.1))=bt498.2.2 then ((prng_Gen_Used.f bt502.2.1 bt502.2.2.1 bt502.2.2.2).bind fun bt506=>(if bt506.1=(wrap64 (x9_2+1)) then (mosaiclaw04_PrngBlocks.l0 kj25 a2 (wrap64 (x9_2+1)) bt506.2.1 bt506.2.2.1 bt506.2.2.2 bt498.1 bt498.2.1) else (some false))) else (some false))))=some true:=by rw [if_pos rfl] at H;exact H
          clear H
          have H:=H1
          clear H1
          replace H:=Option.bind_eq_some_iff.mp H
          obtain ⟨⟨t498,t499,t500⟩,A290,H⟩:=H
          replace H:((prng_Gen_Word.f kj25 x494000_2 x494001_2 x494002_2).bind fun bt502=>(if (wrap64 (bt502.1))=t500 then ((prng_Gen_Used.f bt502.2.1 bt502.2.2.1 bt502.2.2.2).bind fun bt506=>(if bt506.1=(wrap64 (x9_2+1)) then (mosaiclaw04_PrngBlocks.l0 kj25 a2 (wrap64 (x9_2+1)) bt506.2.1 bt506.2.2.1 bt506.2.2.2 t498 t499) else (some false))) else (some false)))=some true:=H
          have A29:=Aside0.mk A290
          clear A290
          replace H:=Option.bind_eq_some_iff.mp H
          obtain ⟨⟨t502,t503,t504,t505⟩,A300,H⟩:=H
          replace H:(if (wrap64 (t502))=t500 then ((prng_Gen_Used.f t503 t504 t505).bind fun bt506=>(if bt506.1=(wrap64 (x9_2+1)) then (mosaiclaw04_PrngBlocks.l0 kj25 a2 (wrap64 (x9_2+1)) bt506.2.1 bt506.2.2.1 bt506.2.2.2 t498 t499) else (some false))) else (some false))=some true:=H
          have A30:=Aside0.mk A300
          clear A300
          by_cases c31:(wrap64 (t502))=t500
          ·
           rw [if_pos c31] at H
           have c31b0:((wrap64 (t502)) == t500)=true:=beq_iff_eq.mpr c31
           have c31b1:((wrap64 (t502)) != t500)=false:=bne_eq_false_iff_eq.mpr c31
           clear c31
           replace H:=Option.bind_eq_some_iff.mp H
           obtain ⟨⟨t506,t507,t508,t509⟩,A320,H⟩:=H
           replace H:(if t506=(wrap64 (x9_2+1)) then (mosaiclaw04_PrngBlocks.l0 kj25 a2 (wrap64 (x9_2+1)) t507 t508 t509 t498 t499) else (some false))=some true:=H
           have A32:=Aside0.mk A320
           clear A320
           by_cases c33:t506=(wrap64 (x9_2+1))
           ·
            rw [if_pos c33] at H
            have c33b0:(t506 == (wrap64 (x9_2+1)))=true:=beq_iff_eq.mpr c33
            have c33b1:(t506 != (wrap64 (x9_2+1)))=false:=bne_eq_false_iff_eq.mpr c33
            clear c33
            have H':=Aside0.mk H
            clear H
            have hnb34:=NB497_493.out
            have hnc34:=NB493_497.out
            have hcz35_0:wc.cell? ⟨gb497,0,none⟩=some (.string x498000_2):=(blk_cell BK497.out 0).trans rfl
            have hcz35_1:wc.cell? ⟨gb497,1,none⟩=some (.int .i64 x498001_2):=(blk_cell BK497.out 1).trans rfl
            have hfz35_0:=blk_frozen BK497.out 0
            have hfz35_1:=blk_frozen BK497.out 1
            try go_wp2_with (first|((with_reducible refine gate_callee (f:=66) rfl ?_);refine goesL_ (some 52) rfl rfl Try.func66 (by kernel_rfl) rfl #[.agg #[.string x498000_2,.int .i64 x498001_2]] rfl (by (try simp only [List.map_toArray,List.map_cons,List.map_nil]);first|done|rfl|(simp only [List.length_drop,List.length_take];rfl)) ?_;(with_reducible refine (mosaicref04_Gen_Word.calls kj25 x498000_2 x498001_2 t498 t499 t500 _ A29.out).mono ?_);rintro e w36 ⟨rfl,hb⟩;refine ⟨_,rfl,?_⟩;have n0_:=Aside0.mk (blk_below (g:=gb497) (o:=.cells #[.string x498000_2,.int .i64 x498001_2] 83 (0,0)) (by (with_reducible repeat (first|refine blk_drewN ?_ _|refine blk_drew ?_|refine blk_alloc ?_ _));exact BK497.out) hb);have n1_:=Aside0.mk (IsS130.below (by repeat (first|(with_reducible first|exact HI493.out|apply IsS130.alloc|apply IsS130.drewN|apply IsS130.drew|apply IsS130.set_0|apply IsS130.set_1|apply IsS130.set_2|refine IsS130.far ?_ NB493_497.out _)|exact HI493.out)) hb);have n2_:=Aside0.mk (below_step (by repeat (first|(with_reducible first|exact HB.out|apply below_alloc|apply pw_below_drewN|apply below_drew1|refine below_set ?_ (IsS130.ge HI493.out)|refine below_set ?_ GE497.out)|exact HB.out)) hb);clear BK497;clear HI493;clear HB;have BK497:=n0_;have HI493:=n1_;have HB:=n2_;clear n0_ n1_ n2_;(try clear hb);(try clear hb2);(try clear hk);(try clear hi))|((with_reducible refine gate_dst (N:=10) rfl ?_);(try (refine gate_guard (by rfl) ?_;dsimp only));refine box_event ?hg (N:=10) ?hd (cs:=#[.string (⟨#[]⟩:ByteArray),.int .i64 0,.int .i64 0]) (t:=85) ?hr ?_;(case hd=>rfl);(case hg=>rfl);(case hr=>first|(go_simp;done)|(go_simp;rfl));intro gb501 hg w37 hbox hb;have n0_:=Aside0.mk (blk_below (g:=gb497) (o:=.cells #[.string x498000_2,.int .i64 x498001_2] 83 (0,0)) (by (with_reducible repeat (first|refine blk_drewN ?_ _|refine blk_drew ?_|refine blk_alloc ?_ _));exact BK497.out) hb);have n1_:=Aside0.mk (IsS130.below (by repeat (first|(with_reducible first|exact HI493.out|apply IsS130.alloc|apply IsS130.drewN|apply IsS130.drew|apply IsS130.set_0|apply IsS130.set_1|apply IsS130.set_2|refine IsS130.far ?_ NB493_497.out _)|exact HI493.out)) hb);have n2_:=Aside0.mk (below_step (by repeat (first|(with_reducible first|exact HB.out|apply below_alloc|apply pw_below_drewN|apply below_drew1|refine below_set ?_ (IsS130.ge HI493.out)|refine below_set ?_ GE497.out)|exact HB.out)) hb);have n3_:=Aside0.mk (hbox);have n4_:=Aside0.mk ((by rw [hg];exact (below_size (by repeat (first|(with_reducible first|exact HB.out|apply below_alloc|apply pw_below_drewN|apply below_drew1|refine below_set ?_ (IsS130.ge HI493.out)|refine below_set ?_ GE497.out)|exact HB.out))):w.heap.size≤gb501));have n5_:=Aside0.mk ((by rw [hg];exact (below_size (by repeat (first|(with_reducible first|exact HB.out|apply below_alloc|apply pw_below_drewN|apply below_drew1|refine below_set ?_ (IsS130.ge HI493.out)|refine below_set ?_ GE497.out)|exact HB.out))):w.heap.size≤gb501));have n6_:=Aside0.mk ((by rw [hg];exact Nat.ne_of_lt (blk_lt (g:=gb497) (o:=.cells #[.string x498000_2,.int .i64 x498001_2] 83 (0,0)) (by (with_reducible repeat (first|refine blk_drewN ?_ _|refine blk_drew ?_|refine blk_alloc ?_ _));exact BK497.out)):gb497≠gb501));have n7_:=Aside0.mk ((by rw [hg];exact Nat.ne_of_gt (blk_lt (g:=gb497) (o:=.cells #[.string x498000_2,.int .i64 x498001_2] 83 (0,0)) (by (with_reducible repeat (first|refine blk_drewN ?_ _|refine blk_drew ?_|refine blk_alloc ?_ _));exact BK497.out)):gb501≠gb497));have n8_:=Aside0.mk ((by rw [hg];exact Nat.ne_of_lt (IsS130.lt (show IsS130 w _ g493 x494000_2 x494001_2 x494002_2 from by repeat (first|(with_reducible first|exact HI493.out|apply IsS130.alloc|apply IsS130.drewN|apply IsS130.drew|apply IsS130.set_0|apply IsS130.set_1|apply IsS130.set_2|refine IsS130.far ?_ NB493_497.out _)|exact HI493.out))):g493≠gb501));have n9_:=Aside0.mk ((by rw [hg];exact Nat.ne_of_gt (IsS130.lt (show IsS130 w _ g493 x494000_2 x494001_2 x494002_2 from by repeat (first|(with_reducible first|exact HI493.out|apply IsS130.alloc|apply IsS130.drewN|apply IsS130.drew|apply IsS130.set_0|apply IsS130.set_1|apply IsS130.set_2|refine IsS130.far ?_ NB493_497.out _)|exact HI493.out))):gb501≠g493));clear BK497;clear HI493;clear HB;have BK497:=n0_;have HI493:=n1_;have HB:=n2_;have BK501:=n3_;have GW501:=n4_;have GE501:=n5_;have NB497_501:=n6_;have NB501_497:=n7_;have NB493_501:=n8_;have NB501_493:=n9_;clear n0_ n1_ n2_ n3_ n4_ n5_ n6_ n7_ n8_ n9_;clear hb hbox hg;have hnb38:=NB501_497.out;have hnc38:=NB497_501.out;have hnb39:=NB501_493.out;have hnc39:=NB493_501.out;have hcz40_0:w37.cell? ⟨gb501,0,none⟩=some (.string (⟨#[]⟩:ByteArray)):=(blk_cell BK501.out 0).trans rfl;have hcz40_1:w37.cell? ⟨gb501,1,none⟩=some (.int .i64 0):=(blk_cell BK501.out 1).trans rfl;have hcz40_2:w37.cell? ⟨gb501,2,none⟩=some (.int .i64 0):=(blk_cell BK501.out 2).trans rfl;have hfz40_0:=blk_frozen BK501.out 0;have hfz40_1:=blk_frozen BK501.out 1;have hfz40_2:=blk_frozen BK501.out 2;have hcz41_0:w37.cell? ⟨gb497,0,none⟩=some (.string x498000_2):=(blk_cell BK497.out 0).trans rfl;have hcz41_1:w37.cell? ⟨gb497,1,none⟩=some (.int .i64 x498001_2):=(blk_cell BK497.out 1).trans rfl;have hfz41_0:=blk_frozen BK497.out 0;have hfz41_1:=blk_frozen BK497.out 1))
            have n0_:Aside0 ((((((w37.setCell ⟨gb501,0,none⟩ (.string t498)).setCell ⟨gb501,1,none⟩ (.int .i64 t499)).setCell ⟨gb501,2,none⟩ (.int .i64 t500)).setCell ⟨gb497,0,none⟩ (.string t498)).setCell ⟨gb497,1,none⟩ (.int .i64 t499)).heap[gb497]?=some (.cells #[.string t498,.int .i64 t499] 83 (0,0))):=⟨by (with_reducible repeat (first|refine blk_drewN ?_ _|refine blk_drew ?_|refine blk_alloc ?_ _));refine blk_put (cs:=#[.string t498,.int .i64 x498001_2]) ?_ 1 _ rfl;(with_reducible repeat (first|refine blk_drewN ?_ _|refine blk_drew ?_|refine blk_alloc ?_ _));refine blk_put (cs:=#[.string x498000_2,.int .i64 x498001_2]) ?_ 0 _ rfl;(with_reducible repeat (first|refine blk_drewN ?_ _|refine blk_drew ?_|refine blk_alloc ?_ _));refine blk_far ?_ NB497_501.out _;(with_reducible repeat (first|refine blk_drewN ?_ _|refine blk_drew ?_|refine blk_alloc ?_ _));refine blk_far ?_ NB497_501.out _;(with_reducible repeat (first|refine blk_drewN ?_ _|refine blk_drew ?_|refine blk_alloc ?_ _));refine blk_far ?_ NB497_501.out _;(with_reducible repeat (first|refine blk_drewN ?_ _|refine blk_drew ?_|refine blk_alloc ?_ _));exact BK497.out⟩
            have n1_:Aside0 ((((((w37.setCell ⟨gb501,0,none⟩ (.string t498)).setCell ⟨gb501,1,none⟩ (.int .i64 t499)).setCell ⟨gb501,2,none⟩ (.int .i64 t500)).setCell ⟨gb497,0,none⟩ (.string t498)).setCell ⟨gb497,1,none⟩ (.int .i64 t499)).heap[gb501]?=some (.cells #[.string t498,.int .i64 t499,.int .i64 t500] 85 (0,0))):=⟨by (with_reducible repeat (first|refine blk_drewN ?_ _|refine blk_drew ?_|refine blk_alloc ?_ _));refine blk_far ?_ NB501_497.out _;(with_reducible repeat (first|refine blk_drewN ?_ _|refine blk_drew ?_|refine blk_alloc ?_ _));refine blk_far ?_ NB501_497.out _;(with_reducible repeat (first|refine blk_drewN ?_ _|refine blk_drew ?_|refine blk_alloc ?_ _));refine blk_put (cs:=#[.string t498,.int .i64 t499,.int .i64 0]) ?_ 2 _ rfl;(with_reducible repeat (first|refine blk_drewN ?_ _|refine blk_drew ?_|refine blk_alloc ?_ _));refine blk_put (cs:=#[.string t498,.int .i64 0,.int .i64 0]) ?_ 1 _ rfl;(with_reducible repeat (first|refine blk_drewN ?_ _|refine blk_drew ?_|refine blk_alloc ?_ _));refine blk_put (cs:=#[.string (⟨#[]⟩:ByteArray),.int .i64 0,.int .i64 0]) ?_ 0 _ rfl;(with_reducible repeat (first|refine blk_drewN ?_ _|refine blk_drew ?_|refine blk_alloc ?_ _));exact BK501.out⟩
            have n2_:Aside0 (IsS130 w (((((w37.setCell ⟨gb501,0,none⟩ (.string t498)).setCell ⟨gb501,1,none⟩ (.int .i64 t499)).setCell ⟨gb501,2,none⟩ (.int .i64 t500)).setCell ⟨gb497,0,none⟩ (.string t498)).setCell ⟨gb497,1,none⟩ (.int .i64 t499)) g493 x494000_2 x494001_2 x494002_2):=⟨by repeat (first|(with_reducible first|exact HI493.out|apply IsS130.alloc|apply IsS130.drewN|apply IsS130.drew|apply IsS130.set_0|apply IsS130.set_1|apply IsS130.set_2|refine IsS130.far ?_ NB493_497.out _|refine IsS130.far ?_ NB493_501.out _)|exact HI493.out)⟩
            have n3_:Aside0 (Below w.heap.size w (((((w37.setCell ⟨gb501,0,none⟩ (.string t498)).setCell ⟨gb501,1,none⟩ (.int .i64 t499)).setCell ⟨gb501,2,none⟩ (.int .i64 t500)).setCell ⟨gb497,0,none⟩ (.string t498)).setCell ⟨gb497,1,none⟩ (.int .i64 t499))):=⟨by repeat (first|(with_reducible first|exact HB.out|apply below_alloc|apply pw_below_drewN|apply below_drew1|refine below_set ?_ (IsS130.ge HI493.out)|refine below_set ?_ GE497.out|refine below_set ?_ GE501.out)|exact HB.out)⟩
            (try clear BK497)
            (try clear BK501)
            (try clear HI493)
            (try clear HB)
            generalize (((((w37.setCell ⟨gb501,0,none⟩ (.string t498)).setCell ⟨gb501,1,none⟩ (.int .i64 t499)).setCell ⟨gb501,2,none⟩ (.int .i64 t500)).setCell ⟨gb497,0,none⟩ (.string t498)).setCell ⟨gb497,1,none⟩ (.int .i64 t499))=w42 at n0_ n1_ n2_ n3_ ⊢
            have BK497:=n0_
            have BK501:=n1_
            have HI493:=n2_
            have HB:=n3_
            clear n0_ n1_ n2_ n3_
            have n0_:=Aside0.mk (blk_drew BK497.out)
            have n1_:=Aside0.mk (blk_drew BK501.out)
            have n2_:=Aside0.mk (IsS130.drew HI493.out)
            have n3_:=Aside0.mk (below_drew1 HB.out)
            clear BK497
            clear BK501
            clear HI493
            clear HB
            have BK497:=n0_
            have BK501:=n1_
            have HI493:=n2_
            have HB:=n3_
            clear n0_ n1_ n2_ n3_
            refine start_ (n:=13) (S:=fun w'=>w'.cell? ⟨gb501,0,none⟩=some (.string t498)∧w'.cell? ⟨gb501,1,none⟩=some (.int .i64 t499)∧w'.cell? ⟨gb501,2,none⟩=some (.int .i64 t500)) (ds:=[]) #[false,false,false,false,false,false,false,false,false,false,false,false,false] (by kernel_rfl) rfl rfl ⟨(blk_cell BK501.out 0).trans rfl,(blk_cell BK501.out 1).trans rfl,(blk_cell BK501.out 2).trans rfl⟩ (fun hHeld=>?_);refine with_tabW mosaiclaw04_PrngBlocks.tab12 mosaiclaw04_PrngBlocks.bits12 (fun HT_ HW_=>?_)
            generalize w42.drew=w43 at BK497 BK501 HI493 HB hHeld ⊢
            refine pure_ (i:=0) (N:=some 55) (v:=?_) (a':=?_) #[true,false,false,false,false,false,false,false,false,false,false,false,false] rfl rfl (any_of HT_.out (by kernel_rfl)) (fun _ _ _ h=>h) (Or.inl ⟨by rfl,?_⟩) ?_ ?_
            rotate_left
            ·
             intro w'
             go_simp
             with_reducible rfl
            rotate_left
            ·
             simp only [Act.put,List.setIfInBounds_toArray,List.set_cons_zero,List.set_cons_succ,i64_w,i32_w]
             rfl
            refine pure_ (i:=3) (N:=some 58) (v:=?_) (a':=?_) #[true,false,false,true,false,false,false,false,false,false,false,false,false] rfl rfl (any_of HT_.out (by kernel_rfl)) (fun _ _ _ h=>h) (Or.inl ⟨by rfl,?_⟩) ?_ ?_
            rotate_left
            ·
             intro w'
             go_simp
             with_reducible rfl
            rotate_left
            ·
             simp only [Act.put,List.setIfInBounds_toArray,List.set_cons_zero,List.set_cons_succ,i64_w,i32_w]
             rfl
            refine take_ (i:=4) (N:=some 59) (v:=?_) (a':=?_) #[true,false,false,true,true,false,false,false,false,false,false,false,false] rfl rfl (take_ofW HT_.out HW_.out (by kernel_rfl)) (fun _ _ _ h=>h) (Or.inl ⟨by rfl,?_⟩) hHeld ?_ ?_
            rotate_left
            ·
             rintro w' ⟨s0,s1,s2⟩
             go_simp
             with_reducible rfl
            rotate_left
            ·
             simp only [Act.put,List.setIfInBounds_toArray,List.set_cons_zero,List.set_cons_succ,i64_w,i32_w]
             rfl
            refine one_ (i:=1) (N:=some 56) #[true,true,false,true,true,false,false,false,false,false,false,false,false] rfl rfl (one_of HT_.out (by kernel_rfl)) (by decide) (fun K hK=>?_)
            refine goes_ Try.func67 (by kernel_rfl) rfl #[.pointer (some ⟨g493,0,none⟩)] (by rfl) rfl rfl (by (try simp only [List.map_toArray,List.map_cons,List.map_nil]);first|done|rfl|(simp only [List.length_drop,List.length_take];rfl)) ?_
            with_reducible refine (prng_Gen_Word.calls kj25 g493 x494000_2 x494001_2 x494002_2 t502 t503 t504 t505 w _ ?side1 ?side2 A30.out).mono ?_
            (case side1=>repeat (first|(with_reducible first|exact HI493.out|apply IsS130.alloc|apply IsS130.drewN|apply IsS130.drew|apply IsS130.set_0|apply IsS130.set_1|apply IsS130.set_2|refine IsS130.far ?_ NB493_497.out _|refine IsS130.far ?_ NB493_501.out _)|exact HI493.out))
            (case side2=>repeat (first|(with_reducible first|exact HB.out|apply below_alloc|apply pw_below_drewN|apply below_drew1|refine below_set ?_ (IsS130.ge HI493.out)|refine below_set ?_ GE497.out|refine below_set ?_ GE501.out)|exact HB.out))
            rintro e w44 ⟨rfl,hi,hb,hk⟩
            refine ⟨_,rfl,?_⟩
            have n0_:=Aside0.mk (KeepBut.blk hk (g':=gb497) (o:=.cells #[.string t498,.int .i64 t499] 83 (0,0)) (by (with_reducible repeat (first|refine blk_drewN ?_ _|refine blk_drew ?_|refine blk_alloc ?_ _));exact BK497.out) NB497_493.out (by simp))
            have n1_:=Aside0.mk (KeepBut.blk hk (g':=gb501) (o:=.cells #[.string t498,.int .i64 t499,.int .i64 t500] 85 (0,0)) (by (with_reducible repeat (first|refine blk_drewN ?_ _|refine blk_drew ?_|refine blk_alloc ?_ _));exact BK501.out) NB501_493.out (by simp))
            have n2_:=Aside0.mk (hb)
            have n3_:=Aside0.mk (hi)
            clear BK497
            clear BK501
            clear HB
            clear HI493
            have BK497:=n0_
            have BK501:=n1_
            have HB:=n2_
            have HI493:=n3_
            clear n0_ n1_ n2_ n3_
            (try clear hb)
            (try clear hb2)
            (try clear hk)
            (try clear hi)
            refine hK.out _ _ ⟨(blk_cell BK501.out 0).trans rfl,(blk_cell BK501.out 1).trans rfl,(blk_cell BK501.out 2).trans rfl⟩ (fun hHeld=>?_)
            clear hK K
            refine norm_ (a':=?_) ?_ ?_
            rotate_left
            ·
             show Act.put _ (some 56) _=_
             simp only [Act.put,List.setIfInBounds_toArray,List.set_cons_zero,List.set_cons_succ,i64_w,i32_w]
             rfl
            refine pure_ (i:=2) (N:=some 57) (v:=?_) (a':=?_) #[true,true,true,true,true,false,false,false,false,false,false,false,false] rfl rfl (any_of HT_.out (by kernel_rfl)) (fun _ _ _ h=>h) (Or.inl ⟨by rfl,?_⟩) ?_ ?_
            rotate_left
            ·
             intro w'
             go_simp
             with_reducible rfl
            rotate_left
            ·
             simp only [Act.put,List.setIfInBounds_toArray,List.set_cons_zero,List.set_cons_succ,i64_w,i32_w]
             rfl
            refine pure_ (i:=5) (N:=some 60) (v:=?_) (a':=?_) #[true,true,true,true,true,true,false,false,false,false,false,false,false] rfl rfl (any_of HT_.out (by kernel_rfl)) (fun _ _ _ h=>h) (Or.inl ⟨by rfl,?_⟩) ?_ ?_
            rotate_left
            ·
             intro w'
             go_simp
             with_reducible rfl
            rotate_left
            ·
             simp only [Act.put,List.setIfInBounds_toArray,List.set_cons_zero,List.set_cons_succ,i64_w,i32_w]
             rfl
            refine pure_ (i:=6) (N:=some 61) (v:=?_) (a':=?_) #[true,true,true,true,true,true,true,false,false,false,false,false,false] rfl rfl (any_of HT_.out (by kernel_rfl)) (fun _ _ _ h=>h) (Or.inl ⟨by rfl,?_⟩) ?_ ?_
            rotate_left
            ·
             intro w'
             go_simp
             with_reducible rfl
            rotate_left
            ·
             simp only [Act.put,List.setIfInBounds_toArray,List.set_cons_zero,List.set_cons_succ,i64_w,i32_w]
             rfl
            refine pure_ (i:=7) (N:=some 62) (v:=?_) (a':=?_) #[true,true,true,true,true,true,true,true,false,false,false,false,false] rfl rfl (any_of HT_.out (by kernel_rfl)) (fun _ _ _ h=>h) (Or.inl ⟨by rfl,?_⟩) ?_ ?_
            rotate_left
            ·
             intro w'
             go_simp
             with_reducible rfl
            rotate_left
            ·
             simp only [Act.put,List.setIfInBounds_toArray,List.set_cons_zero,List.set_cons_succ,i64_w,i32_w]
             rfl
            refine pure_ (i:=9) (N:=some 64) (v:=?_) (a':=?_) #[true,true,true,true,true,true,true,true,false,true,false,false,false] rfl rfl (any_of HT_.out (by kernel_rfl)) (fun _ _ _ h=>h) (Or.inl ⟨by rfl,?_⟩) ?_ ?_
            rotate_left
            ·
             intro w'
             go_simp
             with_reducible rfl
            rotate_left
            ·
             simp only [Act.put,List.setIfInBounds_toArray,List.set_cons_zero,List.set_cons_succ,i64_w,i32_w]
             rfl
            refine pure_ (i:=10) (N:=some 65) (v:=?_) (a':=?_) #[true,true,true,true,true,true,true,true,false,true,true,false,false] rfl rfl (any_of HT_.out (by kernel_rfl)) (fun _ _ _ h=>h) (Or.inl ⟨by rfl,?_⟩) ?_ ?_
            rotate_left
            ·
             intro w'
             go_simp
             with_reducible rfl
            rotate_left
            ·
             simp only [Act.put,List.setIfInBounds_toArray,List.set_cons_zero,List.set_cons_succ,i64_w,i32_w]
             rfl
            refine one_ (i:=8) (N:=some 63) #[true,true,true,true,true,true,true,true,true,true,true,false,false] rfl rfl (one_of HT_.out (by kernel_rfl)) (by decide) (fun K hK=>?_)
            refine goes_ Try.func68 (by kernel_rfl) rfl #[.pointer (some ⟨g493,0,none⟩)] (by rfl) rfl rfl (by (try simp only [List.map_toArray,List.map_cons,List.map_nil]);first|done|rfl|(simp only [List.length_drop,List.length_take];rfl)) ?_
            with_reducible refine (prng_Gen_Used.calls g493 t503 t504 t505 t506 t507 t508 t509 w _ ?side1 ?side2 A32.out).mono ?_
            (case side1=>repeat (first|(with_reducible first|exact HI493.out|apply IsS130.alloc|apply IsS130.drewN|apply IsS130.drew|apply IsS130.set_0|apply IsS130.set_1|apply IsS130.set_2|refine IsS130.far ?_ NB493_497.out _|refine IsS130.far ?_ NB493_501.out _)|exact HI493.out))
            (case side2=>repeat (first|(with_reducible first|exact HB.out|apply below_alloc|apply pw_below_drewN|apply below_drew1|refine below_set ?_ (IsS130.ge HI493.out)|refine below_set ?_ GE497.out|refine below_set ?_ GE501.out)|exact HB.out))
            rintro e w45 ⟨rfl,hi,hb,hk⟩
            refine ⟨_,rfl,?_⟩
            have n0_:=Aside0.mk (KeepBut.blk hk (g':=gb497) (o:=.cells #[.string t498,.int .i64 t499] 83 (0,0)) (by (with_reducible repeat (first|refine blk_drewN ?_ _|refine blk_drew ?_|refine blk_alloc ?_ _));exact BK497.out) NB497_493.out (by simp))
            have n1_:=Aside0.mk (KeepBut.blk hk (g':=gb501) (o:=.cells #[.string t498,.int .i64 t499,.int .i64 t500] 85 (0,0)) (by (with_reducible repeat (first|refine blk_drewN ?_ _|refine blk_drew ?_|refine blk_alloc ?_ _));exact BK501.out) NB501_493.out (by simp))
            have n2_:=Aside0.mk (hb)
            have n3_:=Aside0.mk (hi)
            clear BK497
            clear BK501
            clear HB
            clear HI493
            have BK497:=n0_
            have BK501:=n1_
            have HB:=n2_
            have HI493:=n3_
            clear n0_ n1_ n2_ n3_
            (try clear hb)
            (try clear hb2)
            (try clear hk)
            (try clear hi)
            refine hK.out _ _ ⟨(blk_cell BK501.out 0).trans rfl,(blk_cell BK501.out 1).trans rfl,(blk_cell BK501.out 2).trans rfl⟩ (fun hHeld=>?_)
            clear hK K
            refine norm_ (a':=?_) ?_ ?_
            rotate_left
            ·
             show Act.put _ (some 63) _=_
             simp only [Act.put,List.setIfInBounds_toArray,List.set_cons_zero,List.set_cons_succ,i64_w,i32_w]
             rfl
            refine pure_ (i:=11) (N:=some 66) (v:=?_) (a':=?_) #[true,true,true,true,true,true,true,true,true,true,true,true,false] rfl rfl (any_of HT_.out (by kernel_rfl)) (fun _ _ _ h=>h) (Or.inl ⟨by rfl,?_⟩) ?_ ?_
            rotate_left
            ·
             intro w'
             go_simp
             with_reducible rfl
            rotate_left
            ·
             simp only [Act.put,List.setIfInBounds_toArray,List.set_cons_zero,List.set_cons_succ,i64_w,i32_w]
             rfl
            refine pure_ (i:=12) (N:=some 67) (v:=?_) (a':=?_) #[true,true,true,true,true,true,true,true,true,true,true,true,true] rfl rfl (any_of HT_.out (by kernel_rfl)) (fun _ _ _ h=>h) (Or.inl ⟨by rfl,?_⟩) ?_ ?_
            rotate_left
            ·
             intro w'
             go_simp
             with_reducible rfl
            rotate_left
            ·
             simp only [Act.put,List.setIfInBounds_toArray,List.set_cons_zero,List.set_cons_succ,i64_w,i32_w]
             rfl
            refine done_ (done_of HT_.out (by kernel_rfl)) ?_
            try go_wp2
            go_roundg kj25
            case measure=>have:=HJ7.out;have:=HK2.out;have:=HJ25.out;omega
            case rel=>exact ⟨(wrap64 (x9_2+1)),(t507),(t508),(t509),(t498),(t499),(by first|rfl|(simp;done)|(simp [*];done)),H',⟨by have:=HJ7.out;have:=HK2.out;have:=HJ25.out;omega⟩,⟨by (with_reducible repeat (first|refine blk_drewN ?_ _|refine blk_drew ?_|refine blk_alloc ?_ _));exact BK497.out⟩,⟨by repeat (first|(with_reducible first|exact HI493.out|apply IsS130.alloc|apply IsS130.drewN|apply IsS130.drew|apply IsS130.set_0|apply IsS130.set_1|apply IsS130.set_2|refine IsS130.far ?_ NB493_497.out _|refine IsS130.far ?_ NB493_501.out _)|exact HI493.out)⟩,⟨by repeat (first|(with_reducible first|exact HB.out|apply below_alloc|apply pw_below_drewN|apply below_drew1|refine below_set ?_ (IsS130.ge HI493.out)|refine below_set ?_ GE497.out|refine below_set ?_ GE501.out)|exact HB.out)⟩⟩
           ·
            rw [if_neg c33] at H
            have c33b0:(t506 == (wrap64 (x9_2+1)))=false:=beq_eq_false_iff_ne.mpr c33
            have c33b1:(t506 != (wrap64 (x9_2+1)))=true:=bne_iff_ne.mpr c33
            exact absurd (Option.some.inj H) (by simp)
          ·
           rw [if_neg c31] at H
           have c31b0:((wrap64 (t502)) == t500)=false:=beq_eq_false_iff_ne.mpr c31
           have c31b1:((wrap64 (t502)) != t500)=true:=bne_iff_ne.mpr c31
           exact absurd (Option.some.inj H) (by simp)
         ·
          replace c28:=Bool.eq_false_iff.mpr c28
          subst c28
          have H1:(some true)=some true:=rfl
          clear H
          have H:=H1
          clear H1
          clear H
          go_wp2
          go_ret
          exact ⟨by first|rfl|(simp [errW_none,errW_some] <;> rfl)|(simp [*,errW_none,errW_some] <;> rfl),by repeat (first|(with_reducible first|exact HB.out|apply below_alloc|apply pw_below_drewN|apply below_drew1|refine below_set ?_ (IsS130.ge HI493.out)|refine below_set ?_ GE497.out)|exact HB.out)⟩
end Go.Proofs.Ytelcaepenfjloaa.Print
