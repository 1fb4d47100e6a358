/- The proof of the statement MerkleDigests of the seat, part 7 of 7: the functions that it reaches, as plain functions, with the walks that show it, and what they come to; the last part ends in the row. No condition beyond the statement's own. -/
import Derived.Test.YtelcaepenfjloaaRows
import Derived.WalkKit
import Derived.ProofKit
import Derived.OpenShut
import Derived.ShutString
import Derived.ChangeOld
import Derived.Below
import Derived.SizedLaws
import Derived.Carry
import Derived.Test.YtelcaepenfjloaaBMerkleDigests1
import Derived.Test.YtelcaepenfjloaaBMerkleDigests3
import Derived.Test.YtelcaepenfjloaaBMerkleDigests4
import Derived.Test.YtelcaepenfjloaaBMerkleDigests5
import Derived.Test.YtelcaepenfjloaaBMerkleDigests6
/-! #### Pr58 -/
namespace Go.Proofs.Ytelcaepenfjloaa.Print
open Go.RowKit Go.Proofs.YtelcaepenfjloaaW.PrintWords Go.Proofs.YtelcaepenfjloaaW.PrintLast Go.Proofs.YtelcaepenfjloaaW.PrintMore
attribute [local go_sem] max2_int min2_int max_two min_two max_three min_three max_four min_four
set_option linter.unusedVariables false
set_option linter.unusedSimpArgs false
/-! ### mosaicref03_Witness: function 58 -/
mutual
def mosaicref03_Witness.l0:Nat→List ByteArray→Int→Option (ByteArray×ByteArray×Bool)
 | 0,_,_=>none
 | k+1,x0,x3=>if x3 < (x0.length:Int) then (mosaicref03_Witness.l1 k x0 x3 (wrap64 (x3+1))) else (some ((⟨#[]⟩:ByteArray),(⟨#[]⟩:ByteArray),false))
def mosaicref03_Witness.l1:Nat→List ByteArray→Int→Int→Option (ByteArray×ByteArray×Bool)
 | 0,_,_,_=>none
 | k+1,x0,x3,x4=>if x4 < (x0.length:Int) then (if 0≤x3 then (if x3 < (x0.length:Int) then (if 0≤x4 then (if (rdOf ByteArray.empty x0 x3).toList=(rdOf ByteArray.empty x0 x4).toList then (mosaicref03_Witness.l1 k x0 x3 (wrap64 (x4+1))) else ((mosaicref01_Sum.f k (rdOf ByteArray.empty x0 x3)).bind fun t396=>((mosaicref01_Sum.f k (rdOf ByteArray.empty x0 x4)).bind fun t398=>(if t396.toList=t398.toList then (some (rdOf ByteArray.empty x0 x3,rdOf ByteArray.empty x0 x4,true)) else (mosaicref03_Witness.l1 k x0 x3 (wrap64 (x4+1))))))) else (none)) else (none)) else (none)) else (mosaicref03_Witness.l0 k x0 (wrap64 (x3+1)))
end
def mosaicref03_Witness.f (k:Nat) (l0:List ByteArray):Option (ByteArray×ByteArray×Bool):=mosaicref03_Witness.l0 k l0 0
theorem mosaicref03_Witness.mono_l:∀ k,(∀ y0 y1,LeO (mosaicref03_Witness.l0 k y0 y1) (mosaicref03_Witness.l0 (k+1) y0 y1))∧(∀ y0 y1 y2,LeO (mosaicref03_Witness.l1 k y0 y1 y2) (mosaicref03_Witness.l1 (k+1) y0 y1 y2))
 | 0=>⟨fun _ _ r h=>by simp [mosaicref03_Witness.l0] at h,fun _ _ _ r h=>by simp [mosaicref03_Witness.l1] at h⟩
 | k+1=>by
  obtain ⟨ih0,ih1⟩:=mosaicref03_Witness.mono_l k
  refine ⟨?_,?_⟩
  ·
   intro y0 y1
   unfold mosaicref03_Witness.l0
   repeat' first
   | (with_reducible exact ih0 _ _)
   | (with_reducible exact ih1 _ _ _)
   | (with_reducible exact mosaicref01_Sum.mono _ _)
   | (with_reducible exact LeO.refl _)
   | (with_reducible exact LeO.none _)
   | (with_reducible refine LeO.ite ?_ ?_)
   | (with_reducible refine LeO.bind ?_ (fun _=>?_))
   | exact ih0 _ _
   | exact ih1 _ _ _
   | exact mosaicref01_Sum.mono _ _
   | exact LeO.none _
   | refine LeO.ite ?_ ?_
   | refine LeO.bind ?_ (fun _=>?_)
  ·
   intro y0 y1 y2
   unfold mosaicref03_Witness.l1
   repeat' first
   | (with_reducible exact ih0 _ _)
   | (with_reducible exact ih1 _ _ _)
   | (with_reducible exact mosaicref01_Sum.mono _ _)
   | (with_reducible exact LeO.refl _)
   | (with_reducible exact LeO.none _)
   | (with_reducible refine LeO.ite ?_ ?_)
   | (with_reducible refine LeO.bind ?_ (fun _=>?_))
   | exact ih0 _ _
   | exact ih1 _ _ _
   | exact mosaicref01_Sum.mono _ _
   | exact LeO.none _
   | refine LeO.ite ?_ ?_
   | refine LeO.bind ?_ (fun _=>?_)
theorem mosaicref03_Witness.mono:∀ a0 k,LeO (mosaicref03_Witness.f k a0) (mosaicref03_Witness.f (k+1) a0):=by
 intro a0 k
 obtain ⟨ih0,ih1⟩:=mosaicref03_Witness.mono_l k
 unfold mosaicref03_Witness.f
 repeat' first
   | (with_reducible exact ih0 _ _)
   | (with_reducible exact ih1 _ _ _)
   | (with_reducible exact mosaicref01_Sum.mono _ _)
   | (with_reducible exact LeO.refl _)
   | (with_reducible exact LeO.none _)
   | (with_reducible refine LeO.ite ?_ ?_)
   | (with_reducible refine LeO.bind ?_ (fun _=>?_))
   | exact ih0 _ _
   | exact ih1 _ _ _
   | exact mosaicref01_Sum.mono _ _
   | exact LeO.none _
   | refine LeO.ite ?_ ?_
   | refine LeO.bind ?_ (fun _=>?_)
def mosaicref03_Witness.T7:Bool×List (List Nat×List Nat):=(true,[([],[]),([],[]),([0,1],[0,1]),([2],[2]),([],[]),([],[]),([4,5],[4,5]),([6],[6]),([3,7],[3,7]),([8],[8]),([9],[9]),([9],[9]),([10,11,9],[9,10,11]),([12,9],[9,12]),([13,9,9],[9,13]),([9],[9]),([9],[9]),([15,16,9],[9,15,16]),([17,9],[9,17]),([18,14,9],[9,18]),([14,19,9],[9,14,19]),([9,20],[9,20])])
def mosaicref03_Witness.B7:List Nat:=[0,0,3,7,0,0,48,112,255,511,1023,1023,4095,8191,16383,1023,1023,99327,230399,524287,1048575,2097151]
theorem mosaicref03_Witness.tab7:rtab .any (opsOf Try.f58 7)=mosaicref03_Witness.T7:=by kernel_rfl
theorem mosaicref03_Witness.bits7:waitsOk mosaicref03_Witness.T7.2 mosaicref03_Witness.B7=true:=by kernel_rfl
def mosaicref03_Witness.T8:Bool×List (List Nat×List Nat):=(true,[([],[]),([],[]),([0,1],[0,1]),([2],[2]),([],[]),([],[]),([4,5],[4,5]),([6],[6]),([3,7],[3,7]),([8,0,1,2,3,4,5,6,7,8],[8])])
def mosaicref03_Witness.B8:List Nat:=[0,0,3,7,0,0,48,112,255,511]
theorem mosaicref03_Witness.tab8:rtab .any (opsOf Try.f58 8)=mosaicref03_Witness.T8:=by kernel_rfl
theorem mosaicref03_Witness.bits8:waitsOk mosaicref03_Witness.T8.2 mosaicref03_Witness.B8=true:=by kernel_rfl
set_option maxHeartbeats 8000000 in
set_option maxRecDepth 100000 in
theorem mosaicref03_Witness.calls (k:Nat) (A0:Option Addr) (c0:Nat) (l0:List ByteArray) (r1:ByteArray) (r2:ByteArray) (r3:Bool) (w:World) (hr0:Kd.C Kd.string w A0 l0.length l0) (hc0:l0.length≤c0) (h:mosaicref03_Witness.f k l0=some (r1,r2,r3)) :
  Calls Try.prog 58 #[.slice A0 l0.length c0] w fun e w'=>e=.returned (.agg #[.string r1,.string r2,.bool r3])∧Below w.heap.size w w':=by
 have hu67:=Try.underlying67
 have HR0:=Aside0.mk hr0
 have HC0:=Aside0.mk hc0
 clear hr0 hc0
 have HB:=Aside0.mk (Below.refl w.heap.size w)
 have H:(mosaicref03_Witness.l0 k l0 0)=some (r1,r2,r3):=h
 clear h
 have H':=Aside0.mk H
 clear H
 go_enter Try.func58,Try.ntmps58
 go_wp2_with (first|((with_reducible refine gate_dst (N:=2) rfl ?_);refine box_event ?hg (N:=2) ?hd (cs:=#[.string (⟨#[]⟩:ByteArray),.string (⟨#[]⟩:ByteArray),.bool false]) (t:=67) ?hr ?_;(case hd=>rfl);(case hg=>rfl);(case hr=>first|(go_simp;done)|(go_simp;rfl));intro gb392 hg w2 hbox hb;have n0_:=Aside0.mk (below_step (by repeat (first|(with_reducible first|exact HB.out|apply below_alloc|apply pw_below_drewN|apply below_drew1)|exact HB.out)) hb);have n1_:=Aside0.mk (hbox);have n2_:=Aside0.mk ((by rw [hg];exact (below_size (by repeat (first|(with_reducible first|exact HB.out|apply below_alloc|apply pw_below_drewN|apply below_drew1)|exact HB.out))):w.heap.size≤gb392));have n3_:=Aside0.mk ((by rw [hg];exact (below_size (by repeat (first|(with_reducible first|exact HB.out|apply below_alloc|apply pw_below_drewN|apply below_drew1)|exact HB.out))):w.heap.size≤gb392));clear HB;have HB:=n0_;have BK392:=n1_;have GW392:=n2_;have GE392:=n3_;clear n0_ n1_ n2_ n3_;clear hb hbox hg))
 go_loopg [3] k (fun kq v3 w'=>∃ (x3_1:Int) (x393000_1:ByteArray) (x393001_1:ByteArray) (x393002_1:Bool),v3=.int .i64 x3_1∧Aside0 (mosaicref03_Witness.l0 kq l0 x3_1=some (r1,r2,r3))∧Aside0 (kq≤k)∧Aside0 (w'.heap[gb392]?=some (.cells #[.string x393000_1,.string x393001_1,.bool x393002_1] 67 (0,0)))∧Aside0 (Below w.heap.size w w'))
 case atStart=>exact ⟨(0),((⟨#[]⟩:ByteArray)),((⟨#[]⟩:ByteArray)),(false),(by first|rfl|(simp;done)|(simp [*];done)),H',⟨Nat.le_refl _⟩,⟨by (with_reducible repeat (first|refine blk_drewN ?_ _|refine blk_drew ?_|refine blk_alloc ?_ _));exact BK392.out⟩,⟨by repeat (first|(with_reducible first|exact HB.out|apply below_alloc|apply pw_below_drewN|apply below_drew1|refine below_set ?_ GE392.out)|exact HB.out)⟩⟩
 case round =>
  clear H'
  try clear p2
  obtain ⟨x3_1,x393000_1,x393001_1,x393002_1,rfl,HA,HK1,BK392,HB⟩:=hrel
  cases gk with
  | zero=>exact absurd HA.out (by simp [mosaicref03_Witness.l0])
  | succ k1 =>
   have H:=HA.out
   clear HA
   simp only [mosaicref03_Witness.l0] at H
   by_cases c3:x3_1 < (l0.length:Int)
   ·
    rw [if_pos c3] at H
    have c3b0:decide (x3_1 < (l0.length:Int))=true:=decide_eq_true c3
    clear c3
    have H':=Aside0.mk H
    clear H
    go_wp2
    go_loopg [4] k1 (fun kq v4 w'=>∃ (x4_2:Int) (x393000_2:ByteArray) (x393001_2:ByteArray) (x393002_2:Bool),v4=.int .i64 x4_2∧Aside0 (mosaicref03_Witness.l1 kq l0 x3_1 x4_2=some (r1,r2,r3))∧Aside0 (kq≤k1)∧Aside0 (w'.heap[gb392]?=some (.cells #[.string x393000_2,.string x393001_2,.bool x393002_2] 67 (0,0)))∧Aside0 (Below w.heap.size w w'))
    case atStart=>exact ⟨(wrap64 (x3_1+1)),(x393000_1),(x393001_1),(x393002_1),(by first|rfl|(simp;done)|(simp [*];done)),H',⟨Nat.le_refl _⟩,⟨by (with_reducible repeat (first|refine blk_drewN ?_ _|refine blk_drew ?_|refine blk_alloc ?_ _));exact BK392.out⟩,⟨by repeat (first|(with_reducible first|exact HB.out|apply below_alloc|apply pw_below_drewN|apply below_drew1|refine below_set ?_ GE392.out)|exact HB.out)⟩⟩
    case round =>
     clear H'
     try clear p2
     try clear c3
     try clear c3b0
     try clear p2
     obtain ⟨x4_2,x393000_2,x393001_2,x393002_2,rfl,HA,HK2,BK392,HB⟩:=hrel
     cases gk with
     | zero=>exact absurd HA.out (by simp [mosaicref03_Witness.l1])
     | succ k2 =>
      have H:=HA.out
      clear HA
      simp only [mosaicref03_Witness.l1] at H
      by_cases c4:x4_2 < (l0.length:Int)
      ·
       rw [if_pos c4] at H
       have c4b0:decide (x4_2 < (l0.length:Int))=true:=decide_eq_true c4
       clear c4
       by_cases c5:0≤x3_1
       ·
        rw [if_pos c5] at H
        have c5b0:decide (0≤x3_1)=true:=decide_eq_true c5
        clear c5
        by_cases c6:x3_1 < (l0.length:Int)
        ·
         rw [if_pos c6] at H
         have c6b0:decide (x3_1 < (l0.length:Int))=true:=decide_eq_true c6
         clear c6
         by_cases c7:0≤x4_2
         ·
          rw [if_pos c7] at H
          have c7b0:decide (0≤x4_2)=true:=decide_eq_true c7
          clear c7
          by_cases c8:(rdOf ByteArray.empty l0 x3_1).toList=(rdOf ByteArray.empty l0 x4_2).toList
          ·
           rw [if_pos c8] at H
           have c8b0:((rdOf ByteArray.empty l0 x3_1).toList == (rdOf ByteArray.empty l0 x4_2).toList)=true:=beq_iff_eq.mpr c8
           have c8b1:((rdOf ByteArray.empty l0 x3_1).toList != (rdOf ByteArray.empty l0 x4_2).toList)=false:=bne_eq_false_iff_eq.mpr c8
           clear c8
           have H':=Aside0.mk H
           clear H
           try go_wp2
           have n0_:=Aside0.mk (blk_drew BK392.out)
           have n1_:=Aside0.mk (below_drew1 HB.out)
           clear BK392
           clear HB
           have BK392:=n0_
           have HB:=n1_
           clear n0_ n1_
           have p393:0≤(x3_1:Int):=of_decide_eq_true (by first|(with_reducible assumption)|assumption)
           have q393:x3_1 < (l0.length:Int):=of_decide_eq_true (by first|(with_reducible assumption)|assumption)
           obtain ⟨ad393,e393,hx393_0⟩:=Kd.at_string HR0.out x3_1 p393 q393
           have hw393_0:=hx393_0
           cases e393
           replace hx393_0:=(HB.out.cell (World.block_lt_of_cell? w _ hx393_0)).trans hx393_0
           replace p393:=eq_true p393
           replace q393:=eq_true q393
           have p394:0≤(x4_2:Int):=of_decide_eq_true (by first|(with_reducible assumption)|assumption)
           have q394:x4_2 < (l0.length:Int):=of_decide_eq_true (by first|(with_reducible assumption)|assumption)
           obtain ⟨ad394,e394,hx394_0⟩:=Kd.at_string HR0.out x4_2 p394 q394
           have hw394_0:=hx394_0
           obtain rfl:ad393=ad394:=(by injection e394)
           replace hx394_0:=(HB.out.cell (World.block_lt_of_cell? w _ hx394_0)).trans hx394_0
           replace p394:=eq_true p394
           replace q394:=eq_true q394
           refine start_ (n:=22) (S:=fun w'=>w'.cell? (ad393.add (x3_1).toNat)=some (.string (rdOf ByteArray.empty l0 x3_1))∧w'.cell? (ad393.add (x4_2).toNat)=some (.string (rdOf ByteArray.empty l0 x4_2))) (ds:=[]) #[false,false,false,false,false,false,false,false,false,false,false,false,false,false,false,false,false,false,false,false,false,false] (by kernel_rfl) rfl rfl ⟨((HB.out.cell (World.block_lt_of_cell? w _ hw393_0)).trans hw393_0),((HB.out.cell (World.block_lt_of_cell? w _ hw394_0)).trans hw394_0)⟩ (fun hHeld=>?_);refine with_tabW mosaicref03_Witness.tab7 mosaicref03_Witness.bits7 (fun HT_ HW_=>?_)
           generalize wr.drew=w9 at BK392 HB hx393_0 hx394_0 hHeld ⊢
           refine pure_ (i:=0) (N:=some 19) (v:=?_) (a':=?_) #[true,false,false,false,false,false,false,false,false,false,false,false,false,false,false,false,false,false,false,false,false,false] rfl rfl (any_of HT_.out (by kernel_rfl)) (fun _ _ _ h=>h) (Or.inl ⟨by rfl,?_⟩) ?_ ?_
           rotate_left
           ·
            intro w'
            go_simp
            with_reducible rfl
           rotate_left
           ·
            simp only [Act.put,List.setIfInBounds_toArray,List.set_cons_zero,List.set_cons_succ,i64_w,i32_w]
            rfl
           refine pure_ (i:=1) (N:=some 20) (v:=?_) (a':=?_) #[true,true,false,false,false,false,false,false,false,false,false,false,false,false,false,false,false,false,false,false,false,false] rfl rfl (any_of HT_.out (by kernel_rfl)) (fun _ _ _ h=>h) (Or.inl ⟨by rfl,?_⟩) ?_ ?_
           rotate_left
           ·
            intro w'
            go_simp
            with_reducible rfl
           rotate_left
           ·
            simp only [Act.put,List.setIfInBounds_toArray,List.set_cons_zero,List.set_cons_succ,i64_w,i32_w]
            rfl
           refine pure_ (i:=2) (N:=some 21) (v:=?_) (a':=?_) #[true,true,true,false,false,false,false,false,false,false,false,false,false,false,false,false,false,false,false,false,false,false] rfl rfl (any_of HT_.out (by kernel_rfl)) (fun _ _ _ h=>h) (Or.inl ⟨by rfl,?_⟩) ?_ ?_
           rotate_left
           ·
            intro w'
            go_simp
            with_reducible rfl
           rotate_left
           ·
            simp only [Act.put,List.setIfInBounds_toArray,List.set_cons_zero,List.set_cons_succ,i64_w,i32_w]
            rfl
           refine pure_ (i:=4) (N:=some 23) (v:=?_) (a':=?_) #[true,true,true,false,true,false,false,false,false,false,false,false,false,false,false,false,false,false,false,false,false,false] rfl rfl (any_of HT_.out (by kernel_rfl)) (fun _ _ _ h=>h) (Or.inl ⟨by rfl,?_⟩) ?_ ?_
           rotate_left
           ·
            intro w'
            go_simp
            with_reducible rfl
           rotate_left
           ·
            simp only [Act.put,List.setIfInBounds_toArray,List.set_cons_zero,List.set_cons_succ,i64_w,i32_w]
            rfl
           refine pure_ (i:=5) (N:=some 24) (v:=?_) (a':=?_) #[true,true,true,false,true,true,false,false,false,false,false,false,false,false,false,false,false,false,false,false,false,false] rfl rfl (any_of HT_.out (by kernel_rfl)) (fun _ _ _ h=>h) (Or.inl ⟨by rfl,?_⟩) ?_ ?_
           rotate_left
           ·
            intro w'
            go_simp
            with_reducible rfl
           rotate_left
           ·
            simp only [Act.put,List.setIfInBounds_toArray,List.set_cons_zero,List.set_cons_succ,i64_w,i32_w]
            rfl
           refine pure_ (i:=6) (N:=some 25) (v:=?_) (a':=?_) #[true,true,true,false,true,true,true,false,false,false,false,false,false,false,false,false,false,false,false,false,false,false] rfl rfl (any_of HT_.out (by kernel_rfl)) (fun _ _ _ h=>h) (Or.inl ⟨by rfl,?_⟩) ?_ ?_
           rotate_left
           ·
            intro w'
            go_simp
            with_reducible rfl
           rotate_left
           ·
            simp only [Act.put,List.setIfInBounds_toArray,List.set_cons_zero,List.set_cons_succ,i64_w,i32_w]
            rfl
           refine take_ (i:=3) (N:=some 22) (v:=?_) (a':=?_) #[true,true,true,true,true,true,true,false,false,false,false,false,false,false,false,false,false,false,false,false,false,false] rfl rfl (take_ofW HT_.out HW_.out (by kernel_rfl)) (fun _ _ _ h=>h) (Or.inl ⟨by rfl,?_⟩) hHeld ?_ ?_
           rotate_left
           ·
            rintro w' ⟨s0,s1⟩
            go_simp
            with_reducible rfl
           rotate_left
           ·
            simp only [Act.put,List.setIfInBounds_toArray,List.set_cons_zero,List.set_cons_succ,i64_w,i32_w]
            rfl
           refine take_ (i:=7) (N:=some 26) (v:=?_) (a':=?_) #[true,true,true,true,true,true,true,true,false,false,false,false,false,false,false,false,false,false,false,false,false,false] rfl rfl (take_ofW HT_.out HW_.out (by kernel_rfl)) (fun _ _ _ h=>h) (Or.inl ⟨by rfl,?_⟩) hHeld ?_ ?_
           rotate_left
           ·
            rintro w' ⟨s0,s1⟩
            go_simp
            with_reducible rfl
           rotate_left
           ·
            simp only [Act.put,List.setIfInBounds_toArray,List.set_cons_zero,List.set_cons_succ,i64_w,i32_w]
            rfl
           refine pure_ (i:=8) (N:=some 27) (v:=?_) (a':=?_) #[true,true,true,true,true,true,true,true,true,false,false,false,false,false,false,false,false,false,false,false,false,false] rfl rfl (any_of HT_.out (by kernel_rfl)) (fun _ _ _ h=>h) (Or.inl ⟨by rfl,?_⟩) ?_ ?_
           rotate_left
           ·
            intro w'
            go_simp
            with_reducible rfl
           rotate_left
           ·
            simp only [Act.put,List.setIfInBounds_toArray,List.set_cons_zero,List.set_cons_succ,i64_w,i32_w]
            rfl
           refine pure_ (i:=9) (N:=some 28) (v:=?_) (a':=?_) #[true,true,true,true,true,true,true,true,true,true,false,false,false,false,false,false,false,false,false,false,false,false] rfl rfl (any_of HT_.out (by kernel_rfl)) (fun _ _ _ h=>h) (Or.inl ⟨by rfl,?_⟩) ?_ ?_
           rotate_left
           ·
            intro w'
            go_simp
            with_reducible rfl
           rotate_left
           ·
            simp only [Act.put,List.setIfInBounds_toArray,List.set_cons_zero,List.set_cons_succ,i64_w,i32_w]
            rfl
           refine pure_ (i:=10) (N:=some 29) (v:=undef) (a':=?_) #[true,true,true,true,true,true,true,true,true,true,true,false,false,false,false,false,false,false,false,false,false,false] rfl rfl (any_of HT_.out (by kernel_rfl)) (fun _ _ _ h=>h) (Or.inr ⟨by rfl,rfl⟩) ?_ ?_
           rotate_left
           ·
            simp only [Act.put,List.setIfInBounds_toArray,List.set_cons_zero,List.set_cons_succ,i64_w,i32_w]
            rfl
           refine pure_ (i:=11) (N:=some 30) (v:=undef) (a':=?_) #[true,true,true,true,true,true,true,true,true,true,true,true,false,false,false,false,false,false,false,false,false,false] rfl rfl (any_of HT_.out (by kernel_rfl)) (fun _ _ _ h=>h) (Or.inr ⟨by rfl,rfl⟩) ?_ ?_
           rotate_left
           ·
            simp only [Act.put,List.setIfInBounds_toArray,List.set_cons_zero,List.set_cons_succ,i64_w,i32_w]
            rfl
           refine pure_ (i:=12) (N:=some 31) (v:=undef) (a':=?_) #[true,true,true,true,true,true,true,true,true,true,true,true,true,false,false,false,false,false,false,false,false,false] rfl rfl (any_of HT_.out (by kernel_rfl)) (fun _ _ _ h=>h) (Or.inr ⟨by rfl,rfl⟩) ?_ ?_
           rotate_left
           ·
            simp only [Act.put,List.setIfInBounds_toArray,List.set_cons_zero,List.set_cons_succ,i64_w,i32_w]
            rfl
           refine pure_ (i:=13) (N:=some 32) (v:=undef) (a':=?_) #[true,true,true,true,true,true,true,true,true,true,true,true,true,true,false,false,false,false,false,false,false,false] rfl rfl (any_of HT_.out (by kernel_rfl)) (fun _ _ _ h=>h) (Or.inr ⟨by rfl,rfl⟩) ?_ ?_
           rotate_left
           ·
            simp only [Act.put,List.setIfInBounds_toArray,List.set_cons_zero,List.set_cons_succ,i64_w,i32_w]
            rfl
           refine pure_ (i:=14) (N:=some 33) (v:=undef) (a':=?_) #[true,true,true,true,true,true,true,true,true,true,true,true,true,true,true,false,false,false,false,false,false,false] rfl rfl (any_of HT_.out (by kernel_rfl)) (fun _ _ _ h=>h) (Or.inr ⟨by rfl,rfl⟩) ?_ ?_
           rotate_left
           ·
            simp only [Act.put,List.setIfInBounds_toArray,List.set_cons_zero,List.set_cons_succ,i64_w,i32_w]
            rfl
           refine pure_ (i:=15) (N:=some 34) (v:=undef) (a':=?_) #[true,true,true,true,true,true,true,true,true,true,true,true,true,true,true,true,false,false,false,false,false,false] rfl rfl (any_of HT_.out (by kernel_rfl)) (fun _ _ _ h=>h) (Or.inr ⟨by rfl,rfl⟩) ?_ ?_
           rotate_left
           ·
            simp only [Act.put,List.setIfInBounds_toArray,List.set_cons_zero,List.set_cons_succ,i64_w,i32_w]
            rfl
           refine pure_ (i:=16) (N:=some 35) (v:=undef) (a':=?_) #[true,true,true,true,true,true,true,true,true,true,true,true,true,true,true,true,true,false,false,false,false,false] rfl rfl (any_of HT_.out (by kernel_rfl)) (fun _ _ _ h=>h) (Or.inr ⟨by rfl,rfl⟩) ?_ ?_
           rotate_left
           ·
            simp only [Act.put,List.setIfInBounds_toArray,List.set_cons_zero,List.set_cons_succ,i64_w,i32_w]
            rfl
           refine pure_ (i:=17) (N:=some 36) (v:=undef) (a':=?_) #[true,true,true,true,true,true,true,true,true,true,true,true,true,true,true,true,true,true,false,false,false,false] rfl rfl (any_of HT_.out (by kernel_rfl)) (fun _ _ _ h=>h) (Or.inr ⟨by rfl,rfl⟩) ?_ ?_
           rotate_left
           ·
            simp only [Act.put,List.setIfInBounds_toArray,List.set_cons_zero,List.set_cons_succ,i64_w,i32_w]
            rfl
           refine pure_ (i:=18) (N:=some 37) (v:=undef) (a':=?_) #[true,true,true,true,true,true,true,true,true,true,true,true,true,true,true,true,true,true,true,false,false,false] rfl rfl (any_of HT_.out (by kernel_rfl)) (fun _ _ _ h=>h) (Or.inr ⟨by rfl,rfl⟩) ?_ ?_
           rotate_left
           ·
            simp only [Act.put,List.setIfInBounds_toArray,List.set_cons_zero,List.set_cons_succ,i64_w,i32_w]
            rfl
           refine pure_ (i:=19) (N:=some 38) (v:=undef) (a':=?_) #[true,true,true,true,true,true,true,true,true,true,true,true,true,true,true,true,true,true,true,true,false,false] rfl rfl (any_of HT_.out (by kernel_rfl)) (fun _ _ _ h=>h) (Or.inr ⟨by rfl,rfl⟩) ?_ ?_
           rotate_left
           ·
            simp only [Act.put,List.setIfInBounds_toArray,List.set_cons_zero,List.set_cons_succ,i64_w,i32_w]
            rfl
           refine pure_ (i:=20) (N:=some 39) (v:=undef) (a':=?_) #[true,true,true,true,true,true,true,true,true,true,true,true,true,true,true,true,true,true,true,true,true,false] rfl rfl (any_of HT_.out (by kernel_rfl)) (fun _ _ _ h=>h) (Or.inr ⟨by rfl,rfl⟩) ?_ ?_
           rotate_left
           ·
            simp only [Act.put,List.setIfInBounds_toArray,List.set_cons_zero,List.set_cons_succ,i64_w,i32_w]
            rfl
           refine pure_ (i:=21) (N:=some 40) (v:=?_) (a':=?_) #[true,true,true,true,true,true,true,true,true,true,true,true,true,true,true,true,true,true,true,true,true,true] rfl rfl (any_of HT_.out (by kernel_rfl)) (fun _ _ _ h=>h) (Or.inl ⟨by rfl,?_⟩) ?_ ?_
           rotate_left
           ·
            intro w'
            go_simp
            with_reducible rfl
           rotate_left
           ·
            simp only [Act.put,List.setIfInBounds_toArray,List.set_cons_zero,List.set_cons_succ,i64_w,i32_w]
            rfl
           refine done_ (done_of HT_.out (by kernel_rfl)) ?_
           try go_wp2
           go_roundg k2
           case measure=>have:=HK1.out;have:=HK2.out;omega
           case rel=>exact ⟨(wrap64 (x4_2+1)),(x393000_2),(x393001_2),(x393002_2),(by first|rfl|(simp;done)|(simp [*];done)),H',⟨by have:=HK1.out;have:=HK2.out;omega⟩,⟨by (with_reducible repeat (first|refine blk_drewN ?_ _|refine blk_drew ?_|refine blk_alloc ?_ _));exact BK392.out⟩,⟨by repeat (first|(with_reducible first|exact HB.out|apply below_alloc|apply pw_below_drewN|apply below_drew1|refine below_set ?_ GE392.out)|exact HB.out)⟩⟩
          ·
           rw [if_neg c8] at H
           have c8b0:((rdOf ByteArray.empty l0 x3_1).toList == (rdOf ByteArray.empty l0 x4_2).toList)=false:=beq_eq_false_iff_ne.mpr c8
           have c8b1:((rdOf ByteArray.empty l0 x3_1).toList != (rdOf ByteArray.empty l0 x4_2).toList)=true:=bne_iff_ne.mpr c8
           replace H:=Option.bind_eq_some_iff.mp H
           obtain ⟨t396,A100,H⟩:=H
           replace H:((mosaicref01_Sum.f k2 (rdOf ByteArray.empty l0 x4_2)).bind fun t398=>(if t396.toList=t398.toList then (some (rdOf ByteArray.empty l0 x3_1,rdOf ByteArray.empty l0 x4_2,true)) else (mosaicref03_Witness.l1 k2 l0 x3_1 (wrap64 (x4_2+1)))))=some (r1,r2,r3):=H
           have A10:=Aside0.mk A100
           clear A100
           replace H:=Option.bind_eq_some_iff.mp H
           obtain ⟨t398,A110,H⟩:=H
           replace H:(if t396.toList=t398.toList then (some (rdOf ByteArray.empty l0 x3_1,rdOf ByteArray.empty l0 x4_2,true)) else (mosaicref03_Witness.l1 k2 l0 x3_1 (wrap64 (x4_2+1))))=some (r1,r2,r3):=H
           have A11:=Aside0.mk A110
           clear A110
           by_cases c12:t396.toList=t398.toList
           ·
            rw [if_pos c12] at H
            have c12b0:(t396.toList == t398.toList)=true:=beq_iff_eq.mpr c12
            have c12b1:(t396.toList != t398.toList)=false:=bne_eq_false_iff_eq.mpr c12
            clear c12
            simp only [Option.some.injEq,Prod.mk.injEq] at H
            obtain ⟨rfl,rfl,rfl⟩:=H
            try go_wp2
            have n0_:=Aside0.mk (blk_drew BK392.out)
            have n1_:=Aside0.mk (below_drew1 HB.out)
            clear BK392
            clear HB
            have BK392:=n0_
            have HB:=n1_
            clear n0_ n1_
            have p393:0≤(x3_1:Int):=of_decide_eq_true (by first|(with_reducible assumption)|assumption)
            have q393:x3_1 < (l0.length:Int):=of_decide_eq_true (by first|(with_reducible assumption)|assumption)
            obtain ⟨ad393,e393,hx393_0⟩:=Kd.at_string HR0.out x3_1 p393 q393
            have hw393_0:=hx393_0
            cases e393
            replace hx393_0:=(HB.out.cell (World.block_lt_of_cell? w _ hx393_0)).trans hx393_0
            replace p393:=eq_true p393
            replace q393:=eq_true q393
            have p394:0≤(x4_2:Int):=of_decide_eq_true (by first|(with_reducible assumption)|assumption)
            have q394:x4_2 < (l0.length:Int):=of_decide_eq_true (by first|(with_reducible assumption)|assumption)
            obtain ⟨ad394,e394,hx394_0⟩:=Kd.at_string HR0.out x4_2 p394 q394
            have hw394_0:=hx394_0
            obtain rfl:ad393=ad394:=(by injection e394)
            replace hx394_0:=(HB.out.cell (World.block_lt_of_cell? w _ hx394_0)).trans hx394_0
            replace p394:=eq_true p394
            replace q394:=eq_true q394
            have p395:0≤(x3_1:Int):=of_decide_eq_true (by first|(with_reducible assumption)|assumption)
            have q395:x3_1 < (l0.length:Int):=of_decide_eq_true (by first|(with_reducible assumption)|assumption)
            obtain ⟨ad395,e395,hx395_0⟩:=Kd.at_string HR0.out x3_1 p395 q395
            have hw395_0:=hx395_0
            obtain rfl:ad393=ad395:=(by injection e395)
            replace hx395_0:=(HB.out.cell (World.block_lt_of_cell? w _ hx395_0)).trans hx395_0
            replace p395:=eq_true p395
            replace q395:=eq_true q395
            have p397:0≤(x4_2:Int):=of_decide_eq_true (by first|(with_reducible assumption)|assumption)
            have q397:x4_2 < (l0.length:Int):=of_decide_eq_true (by first|(with_reducible assumption)|assumption)
            obtain ⟨ad397,e397,hx397_0⟩:=Kd.at_string HR0.out x4_2 p397 q397
            have hw397_0:=hx397_0
            obtain rfl:ad393=ad397:=(by injection e397)
            replace hx397_0:=(HB.out.cell (World.block_lt_of_cell? w _ hx397_0)).trans hx397_0
            replace p397:=eq_true p397
            replace q397:=eq_true q397
            refine start_ (n:=22) (S:=fun w'=>w'.cell? (ad393.add (x3_1).toNat)=some (.string (rdOf ByteArray.empty l0 x3_1))∧w'.cell? (ad393.add (x4_2).toNat)=some (.string (rdOf ByteArray.empty l0 x4_2))∧w'.cell? (ad393.add (x3_1).toNat)=some (.string (rdOf ByteArray.empty l0 x3_1))∧w'.cell? (ad393.add (x4_2).toNat)=some (.string (rdOf ByteArray.empty l0 x4_2))) (ds:=[]) #[false,false,false,false,false,false,false,false,false,false,false,false,false,false,false,false,false,false,false,false,false,false] (by kernel_rfl) rfl rfl ⟨((HB.out.cell (World.block_lt_of_cell? w _ hw393_0)).trans hw393_0),((HB.out.cell (World.block_lt_of_cell? w _ hw394_0)).trans hw394_0),((HB.out.cell (World.block_lt_of_cell? w _ hw395_0)).trans hw395_0),((HB.out.cell (World.block_lt_of_cell? w _ hw397_0)).trans hw397_0)⟩ (fun hHeld=>?_);refine with_tabW mosaicref03_Witness.tab7 mosaicref03_Witness.bits7 (fun HT_ HW_=>?_)
            generalize wr.drew=w13 at BK392 HB hx393_0 hx394_0 hx395_0 hx397_0 hHeld ⊢
            refine pure_ (i:=0) (N:=some 19) (v:=?_) (a':=?_) #[true,false,false,false,false,false,false,false,false,false,false,false,false,false,false,false,false,false,false,false,false,false] rfl rfl (any_of HT_.out (by kernel_rfl)) (fun _ _ _ h=>h) (Or.inl ⟨by rfl,?_⟩) ?_ ?_
            rotate_left
            ·
             intro w'
             go_simp
             with_reducible rfl
            rotate_left
            ·
             simp only [Act.put,List.setIfInBounds_toArray,List.set_cons_zero,List.set_cons_succ,i64_w,i32_w]
             rfl
            refine pure_ (i:=1) (N:=some 20) (v:=?_) (a':=?_) #[true,true,false,false,false,false,false,false,false,false,false,false,false,false,false,false,false,false,false,false,false,false] rfl rfl (any_of HT_.out (by kernel_rfl)) (fun _ _ _ h=>h) (Or.inl ⟨by rfl,?_⟩) ?_ ?_
            rotate_left
            ·
             intro w'
             go_simp
             with_reducible rfl
            rotate_left
            ·
             simp only [Act.put,List.setIfInBounds_toArray,List.set_cons_zero,List.set_cons_succ,i64_w,i32_w]
             rfl
            refine pure_ (i:=2) (N:=some 21) (v:=?_) (a':=?_) #[true,true,true,false,false,false,false,false,false,false,false,false,false,false,false,false,false,false,false,false,false,false] rfl rfl (any_of HT_.out (by kernel_rfl)) (fun _ _ _ h=>h) (Or.inl ⟨by rfl,?_⟩) ?_ ?_
            rotate_left
            ·
             intro w'
             go_simp
             with_reducible rfl
            rotate_left
            ·
             simp only [Act.put,List.setIfInBounds_toArray,List.set_cons_zero,List.set_cons_succ,i64_w,i32_w]
             rfl
            refine pure_ (i:=4) (N:=some 23) (v:=?_) (a':=?_) #[true,true,true,false,true,false,false,false,false,false,false,false,false,false,false,false,false,false,false,false,false,false] rfl rfl (any_of HT_.out (by kernel_rfl)) (fun _ _ _ h=>h) (Or.inl ⟨by rfl,?_⟩) ?_ ?_
            rotate_left
            ·
             intro w'
             go_simp
             with_reducible rfl
            rotate_left
            ·
             simp only [Act.put,List.setIfInBounds_toArray,List.set_cons_zero,List.set_cons_succ,i64_w,i32_w]
             rfl
            refine pure_ (i:=5) (N:=some 24) (v:=?_) (a':=?_) #[true,true,true,false,true,true,false,false,false,false,false,false,false,false,false,false,false,false,false,false,false,false] rfl rfl (any_of HT_.out (by kernel_rfl)) (fun _ _ _ h=>h) (Or.inl ⟨by rfl,?_⟩) ?_ ?_
            rotate_left
            ·
             intro w'
             go_simp
             with_reducible rfl
            rotate_left
            ·
             simp only [Act.put,List.setIfInBounds_toArray,List.set_cons_zero,List.set_cons_succ,i64_w,i32_w]
             rfl
            refine pure_ (i:=6) (N:=some 25) (v:=?_) (a':=?_) #[true,true,true,false,true,true,true,false,false,false,false,false,false,false,false,false,false,false,false,false,false,false] rfl rfl (any_of HT_.out (by kernel_rfl)) (fun _ _ _ h=>h) (Or.inl ⟨by rfl,?_⟩) ?_ ?_
            rotate_left
            ·
             intro w'
             go_simp
             with_reducible rfl
            rotate_left
            ·
             simp only [Act.put,List.setIfInBounds_toArray,List.set_cons_zero,List.set_cons_succ,i64_w,i32_w]
             rfl
            refine take_ (i:=3) (N:=some 22) (v:=?_) (a':=?_) #[true,true,true,true,true,true,true,false,false,false,false,false,false,false,false,false,false,false,false,false,false,false] rfl rfl (take_ofW HT_.out HW_.out (by kernel_rfl)) (fun _ _ _ h=>h) (Or.inl ⟨by rfl,?_⟩) hHeld ?_ ?_
            rotate_left
            ·
             rintro w' ⟨s0,s1,s2,s3⟩
             go_simp
             with_reducible rfl
            rotate_left
            ·
             simp only [Act.put,List.setIfInBounds_toArray,List.set_cons_zero,List.set_cons_succ,i64_w,i32_w]
             rfl
            refine take_ (i:=7) (N:=some 26) (v:=?_) (a':=?_) #[true,true,true,true,true,true,true,true,false,false,false,false,false,false,false,false,false,false,false,false,false,false] rfl rfl (take_ofW HT_.out HW_.out (by kernel_rfl)) (fun _ _ _ h=>h) (Or.inl ⟨by rfl,?_⟩) hHeld ?_ ?_
            rotate_left
            ·
             rintro w' ⟨s0,s1,s2,s3⟩
             go_simp
             with_reducible rfl
            rotate_left
            ·
             simp only [Act.put,List.setIfInBounds_toArray,List.set_cons_zero,List.set_cons_succ,i64_w,i32_w]
             rfl
            refine pure_ (i:=8) (N:=some 27) (v:=?_) (a':=?_) #[true,true,true,true,true,true,true,true,true,false,false,false,false,false,false,false,false,false,false,false,false,false] rfl rfl (any_of HT_.out (by kernel_rfl)) (fun _ _ _ h=>h) (Or.inl ⟨by rfl,?_⟩) ?_ ?_
            rotate_left
            ·
             intro w'
             go_simp
             with_reducible rfl
            rotate_left
            ·
             simp only [Act.put,List.setIfInBounds_toArray,List.set_cons_zero,List.set_cons_succ,i64_w,i32_w]
             rfl
            refine pure_ (i:=9) (N:=some 28) (v:=?_) (a':=?_) #[true,true,true,true,true,true,true,true,true,true,false,false,false,false,false,false,false,false,false,false,false,false] rfl rfl (any_of HT_.out (by kernel_rfl)) (fun _ _ _ h=>h) (Or.inl ⟨by rfl,?_⟩) ?_ ?_
            rotate_left
            ·
             intro w'
             go_simp
             with_reducible rfl
            rotate_left
            ·
             simp only [Act.put,List.setIfInBounds_toArray,List.set_cons_zero,List.set_cons_succ,i64_w,i32_w]
             rfl
            refine pure_ (i:=10) (N:=some 29) (v:=?_) (a':=?_) #[true,true,true,true,true,true,true,true,true,true,true,false,false,false,false,false,false,false,false,false,false,false] rfl rfl (any_of HT_.out (by kernel_rfl)) (fun _ _ _ h=>h) (Or.inl ⟨by rfl,?_⟩) ?_ ?_
            rotate_left
            ·
             intro w'
             go_simp
             with_reducible rfl
            rotate_left
            ·
             simp only [Act.put,List.setIfInBounds_toArray,List.set_cons_zero,List.set_cons_succ,i64_w,i32_w]
             rfl
            refine pure_ (i:=11) (N:=some 30) (v:=?_) (a':=?_) #[true,true,true,true,true,true,true,true,true,true,true,true,false,false,false,false,false,false,false,false,false,false] rfl rfl (any_of HT_.out (by kernel_rfl)) (fun _ _ _ h=>h) (Or.inl ⟨by rfl,?_⟩) ?_ ?_
            rotate_left
            ·
             intro w'
             go_simp
             with_reducible rfl
            rotate_left
            ·
             simp only [Act.put,List.setIfInBounds_toArray,List.set_cons_zero,List.set_cons_succ,i64_w,i32_w]
             rfl
            refine pure_ (i:=12) (N:=some 31) (v:=?_) (a':=?_) #[true,true,true,true,true,true,true,true,true,true,true,true,true,false,false,false,false,false,false,false,false,false] rfl rfl (any_of HT_.out (by kernel_rfl)) (fun _ _ _ h=>h) (Or.inl ⟨by rfl,?_⟩) ?_ ?_
            rotate_left
            ·
             intro w'
             go_simp
             with_reducible rfl
            rotate_left
            ·
             simp only [Act.put,List.setIfInBounds_toArray,List.set_cons_zero,List.set_cons_succ,i64_w,i32_w]
             rfl
            refine pure_ (i:=15) (N:=some 34) (v:=?_) (a':=?_) #[true,true,true,true,true,true,true,true,true,true,true,true,true,false,false,true,false,false,false,false,false,false] rfl rfl (any_of HT_.out (by kernel_rfl)) (fun _ _ _ h=>h) (Or.inl ⟨by rfl,?_⟩) ?_ ?_
            rotate_left
            ·
             intro w'
             go_simp
             with_reducible rfl
            rotate_left
            ·
             simp only [Act.put,List.setIfInBounds_toArray,List.set_cons_zero,List.set_cons_succ,i64_w,i32_w]
             rfl
            refine pure_ (i:=16) (N:=some 35) (v:=?_) (a':=?_) #[true,true,true,true,true,true,true,true,true,true,true,true,true,false,false,true,true,false,false,false,false,false] rfl rfl (any_of HT_.out (by kernel_rfl)) (fun _ _ _ h=>h) (Or.inl ⟨by rfl,?_⟩) ?_ ?_
            rotate_left
            ·
             intro w'
             go_simp
             with_reducible rfl
            rotate_left
            ·
             simp only [Act.put,List.setIfInBounds_toArray,List.set_cons_zero,List.set_cons_succ,i64_w,i32_w]
             rfl
            refine pure_ (i:=17) (N:=some 36) (v:=?_) (a':=?_) #[true,true,true,true,true,true,true,true,true,true,true,true,true,false,false,true,true,true,false,false,false,false] rfl rfl (any_of HT_.out (by kernel_rfl)) (fun _ _ _ h=>h) (Or.inl ⟨by rfl,?_⟩) ?_ ?_
            rotate_left
            ·
             intro w'
             go_simp
             with_reducible rfl
            rotate_left
            ·
             simp only [Act.put,List.setIfInBounds_toArray,List.set_cons_zero,List.set_cons_succ,i64_w,i32_w]
             rfl
            refine take_ (i:=13) (N:=some 32) (v:=?_) (a':=?_) #[true,true,true,true,true,true,true,true,true,true,true,true,true,true,false,true,true,true,false,false,false,false] rfl rfl (take_ofW HT_.out HW_.out (by kernel_rfl)) (fun _ _ _ h=>h) (Or.inl ⟨by rfl,?_⟩) hHeld ?_ ?_
            rotate_left
            ·
             rintro w' ⟨s0,s1,s2,s3⟩
             go_simp
             with_reducible rfl
            rotate_left
            ·
             simp only [Act.put,List.setIfInBounds_toArray,List.set_cons_zero,List.set_cons_succ,i64_w,i32_w]
             rfl
            refine take_ (i:=18) (N:=some 37) (v:=?_) (a':=?_) #[true,true,true,true,true,true,true,true,true,true,true,true,true,true,false,true,true,true,true,false,false,false] rfl rfl (take_ofW HT_.out HW_.out (by kernel_rfl)) (fun _ _ _ h=>h) (Or.inl ⟨by rfl,?_⟩) hHeld ?_ ?_
            rotate_left
            ·
             rintro w' ⟨s0,s1,s2,s3⟩
             go_simp
             with_reducible rfl
            rotate_left
            ·
             simp only [Act.put,List.setIfInBounds_toArray,List.set_cons_zero,List.set_cons_succ,i64_w,i32_w]
             rfl
            refine one_ (i:=14) (N:=some 33) #[true,true,true,true,true,true,true,true,true,true,true,true,true,true,true,true,true,true,true,false,false,false] rfl rfl (one_of HT_.out (by kernel_rfl)) (by decide) (fun K hK=>?_)
            refine goes_ Try.func27 (by kernel_rfl) rfl #[.string (rdOf ByteArray.empty l0 x3_1)] (by rfl) rfl rfl (by (try simp only [List.map_toArray,List.map_cons,List.map_nil]);first|done|rfl|(simp only [List.length_drop,List.length_take];rfl)) ?_
            with_reducible refine (mosaicref01_Sum.calls k2 (rdOf ByteArray.empty l0 x3_1) t396 _ A10.out).mono ?_
            rintro e w14 ⟨rfl,hb⟩
            refine ⟨_,rfl,?_⟩
            have n0_:=Aside0.mk (blk_below (g:=gb392) (o:=.cells #[.string x393000_2,.string x393001_2,.bool x393002_2] 67 (0,0)) (by (with_reducible repeat (first|refine blk_drewN ?_ _|refine blk_drew ?_|refine blk_alloc ?_ _));exact BK392.out) hb)
            have n1_:=Aside0.mk (below_step (by repeat (first|(with_reducible first|exact HB.out|apply below_alloc|apply pw_below_drewN|apply below_drew1|refine below_set ?_ GE392.out)|exact HB.out)) hb)
            clear BK392
            clear HB
            have BK392:=n0_
            have HB:=n1_
            clear n0_ n1_
            (try clear hb)
            (try clear hb2)
            (try clear hk)
            (try clear hi)
            refine hK.out _ _ ⟨((HB.out.cell (World.block_lt_of_cell? w _ hw393_0)).trans hw393_0),((HB.out.cell (World.block_lt_of_cell? w _ hw394_0)).trans hw394_0),((HB.out.cell (World.block_lt_of_cell? w _ hw395_0)).trans hw395_0),((HB.out.cell (World.block_lt_of_cell? w _ hw397_0)).trans hw397_0)⟩ (fun hHeld=>?_)
            clear hK K
            refine norm_ (a':=?_) ?_ ?_
            rotate_left
            ·
             show Act.put _ (some 33) _=_
             simp only [Act.put,List.setIfInBounds_toArray,List.set_cons_zero,List.set_cons_succ,i64_w,i32_w]
             rfl
            refine one_ (i:=19) (N:=some 38) #[true,true,true,true,true,true,true,true,true,true,true,true,true,true,true,true,true,true,true,true,false,false] rfl rfl (one_of HT_.out (by kernel_rfl)) (by decide) (fun K hK=>?_)
            refine goes_ Try.func27 (by kernel_rfl) rfl #[.string (rdOf ByteArray.empty l0 x4_2)] (by rfl) rfl rfl (by (try simp only [List.map_toArray,List.map_cons,List.map_nil]);first|done|rfl|(simp only [List.length_drop,List.length_take];rfl)) ?_
            with_reducible refine (mosaicref01_Sum.calls k2 (rdOf ByteArray.empty l0 x4_2) t398 _ A11.out).mono ?_
            rintro e w15 ⟨rfl,hb⟩
            refine ⟨_,rfl,?_⟩
            have n0_:=Aside0.mk (blk_below (g:=gb392) (o:=.cells #[.string x393000_2,.string x393001_2,.bool x393002_2] 67 (0,0)) (by (with_reducible repeat (first|refine blk_drewN ?_ _|refine blk_drew ?_|refine blk_alloc ?_ _));exact BK392.out) hb)
            have n1_:=Aside0.mk (below_step (by repeat (first|(with_reducible first|exact HB.out|apply below_alloc|apply pw_below_drewN|apply below_drew1|refine below_set ?_ GE392.out)|exact HB.out)) hb)
            clear BK392
            clear HB
            have BK392:=n0_
            have HB:=n1_
            clear n0_ n1_
            (try clear hb)
            (try clear hb2)
            (try clear hk)
            (try clear hi)
            refine hK.out _ _ ⟨((HB.out.cell (World.block_lt_of_cell? w _ hw393_0)).trans hw393_0),((HB.out.cell (World.block_lt_of_cell? w _ hw394_0)).trans hw394_0),((HB.out.cell (World.block_lt_of_cell? w _ hw395_0)).trans hw395_0),((HB.out.cell (World.block_lt_of_cell? w _ hw397_0)).trans hw397_0)⟩ (fun hHeld=>?_)
            clear hK K
            refine norm_ (a':=?_) ?_ ?_
            rotate_left
            ·
             show Act.put _ (some 38) _=_
             simp only [Act.put,List.setIfInBounds_toArray,List.set_cons_zero,List.set_cons_succ,i64_w,i32_w]
             rfl
            refine pure_ (i:=20) (N:=some 39) (v:=?_) (a':=?_) #[true,true,true,true,true,true,true,true,true,true,true,true,true,true,true,true,true,true,true,true,true,false] rfl rfl (any_of HT_.out (by kernel_rfl)) (fun _ _ _ h=>h) (Or.inl ⟨by rfl,?_⟩) ?_ ?_
            rotate_left
            ·
             intro w'
             go_simp
             with_reducible rfl
            rotate_left
            ·
             simp only [Act.put,List.setIfInBounds_toArray,List.set_cons_zero,List.set_cons_succ,i64_w,i32_w]
             rfl
            refine pure_ (i:=21) (N:=some 40) (v:=?_) (a':=?_) #[true,true,true,true,true,true,true,true,true,true,true,true,true,true,true,true,true,true,true,true,true,true] rfl rfl (any_of HT_.out (by kernel_rfl)) (fun _ _ _ h=>h) (Or.inl ⟨by rfl,?_⟩) ?_ ?_
            rotate_left
            ·
             intro w'
             go_simp
             with_reducible rfl
            rotate_left
            ·
             simp only [Act.put,List.setIfInBounds_toArray,List.set_cons_zero,List.set_cons_succ,i64_w,i32_w]
             rfl
            refine done_ (done_of HT_.out (by kernel_rfl)) ?_
            try go_wp2
            have n0_:=Aside0.mk (blk_drew BK392.out)
            have n1_:=Aside0.mk (below_drew1 HB.out)
            clear BK392
            clear HB
            have BK392:=n0_
            have HB:=n1_
            clear n0_ n1_
            have p399:0≤(x3_1:Int):=of_decide_eq_true (by first|(with_reducible assumption)|assumption)
            have q399:x3_1 < (l0.length:Int):=of_decide_eq_true (by first|(with_reducible assumption)|assumption)
            obtain ⟨ad399,e399,hx399_0⟩:=Kd.at_string HR0.out x3_1 p399 q399
            have hw399_0:=hx399_0
            obtain rfl:ad393=ad399:=(by injection e399)
            replace hx399_0:=(HB.out.cell (World.block_lt_of_cell? w _ hx399_0)).trans hx399_0
            replace p399:=eq_true p399
            replace q399:=eq_true q399
            have p400:0≤(x4_2:Int):=of_decide_eq_true (by first|(with_reducible assumption)|assumption)
            have q400:x4_2 < (l0.length:Int):=of_decide_eq_true (by first|(with_reducible assumption)|assumption)
            obtain ⟨ad400,e400,hx400_0⟩:=Kd.at_string HR0.out x4_2 p400 q400
            have hw400_0:=hx400_0
            obtain rfl:ad393=ad400:=(by injection e400)
            replace hx400_0:=(HB.out.cell (World.block_lt_of_cell? w _ hx400_0)).trans hx400_0
            replace p400:=eq_true p400
            replace q400:=eq_true q400
            refine start_ (n:=10) (S:=fun w'=>w'.cell? (ad393.add (x3_1).toNat)=some (.string (rdOf ByteArray.empty l0 x3_1))∧w'.cell? (ad393.add (x4_2).toNat)=some (.string (rdOf ByteArray.empty l0 x4_2))) (ds:=[]) #[false,false,false,false,false,false,false,false,false,false] (by kernel_rfl) rfl rfl ⟨((HB.out.cell (World.block_lt_of_cell? w _ hw399_0)).trans hw399_0),((HB.out.cell (World.block_lt_of_cell? w _ hw400_0)).trans hw400_0)⟩ (fun hHeld=>?_);refine with_tabW mosaicref03_Witness.tab8 mosaicref03_Witness.bits8 (fun HT_ HW_=>?_)
            generalize w15.drew=w16 at BK392 HB hx399_0 hx400_0 hHeld ⊢
            refine pure_ (i:=0) (N:=some 41) (v:=?_) (a':=?_) #[true,false,false,false,false,false,false,false,false,false] rfl rfl (any_of HT_.out (by kernel_rfl)) (fun _ _ _ h=>h) (Or.inl ⟨by rfl,?_⟩) ?_ ?_
            rotate_left
            ·
             intro w'
             go_simp
             with_reducible rfl
            rotate_left
            ·
             simp only [Act.put,List.setIfInBounds_toArray,List.set_cons_zero,List.set_cons_succ,i64_w,i32_w]
             rfl
            refine pure_ (i:=1) (N:=some 42) (v:=?_) (a':=?_) #[true,true,false,false,false,false,false,false,false,false] rfl rfl (any_of HT_.out (by kernel_rfl)) (fun _ _ _ h=>h) (Or.inl ⟨by rfl,?_⟩) ?_ ?_
            rotate_left
            ·
             intro w'
             go_simp
             with_reducible rfl
            rotate_left
            ·
             simp only [Act.put,List.setIfInBounds_toArray,List.set_cons_zero,List.set_cons_succ,i64_w,i32_w]
             rfl
            refine pure_ (i:=2) (N:=some 43) (v:=?_) (a':=?_) #[true,true,true,false,false,false,false,false,false,false] rfl rfl (any_of HT_.out (by kernel_rfl)) (fun _ _ _ h=>h) (Or.inl ⟨by rfl,?_⟩) ?_ ?_
            rotate_left
            ·
             intro w'
             go_simp
             with_reducible rfl
            rotate_left
            ·
             simp only [Act.put,List.setIfInBounds_toArray,List.set_cons_zero,List.set_cons_succ,i64_w,i32_w]
             rfl
            refine pure_ (i:=4) (N:=some 45) (v:=?_) (a':=?_) #[true,true,true,false,true,false,false,false,false,false] rfl rfl (any_of HT_.out (by kernel_rfl)) (fun _ _ _ h=>h) (Or.inl ⟨by rfl,?_⟩) ?_ ?_
            rotate_left
            ·
             intro w'
             go_simp
             with_reducible rfl
            rotate_left
            ·
             simp only [Act.put,List.setIfInBounds_toArray,List.set_cons_zero,List.set_cons_succ,i64_w,i32_w]
             rfl
            refine pure_ (i:=5) (N:=some 46) (v:=?_) (a':=?_) #[true,true,true,false,true,true,false,false,false,false] rfl rfl (any_of HT_.out (by kernel_rfl)) (fun _ _ _ h=>h) (Or.inl ⟨by rfl,?_⟩) ?_ ?_
            rotate_left
            ·
             intro w'
             go_simp
             with_reducible rfl
            rotate_left
            ·
             simp only [Act.put,List.setIfInBounds_toArray,List.set_cons_zero,List.set_cons_succ,i64_w,i32_w]
             rfl
            refine pure_ (i:=6) (N:=some 47) (v:=?_) (a':=?_) #[true,true,true,false,true,true,true,false,false,false] rfl rfl (any_of HT_.out (by kernel_rfl)) (fun _ _ _ h=>h) (Or.inl ⟨by rfl,?_⟩) ?_ ?_
            rotate_left
            ·
             intro w'
             go_simp
             with_reducible rfl
            rotate_left
            ·
             simp only [Act.put,List.setIfInBounds_toArray,List.set_cons_zero,List.set_cons_succ,i64_w,i32_w]
             rfl
            refine take_ (i:=3) (N:=some 44) (v:=?_) (a':=?_) #[true,true,true,true,true,true,true,false,false,false] rfl rfl (take_ofW HT_.out HW_.out (by kernel_rfl)) (fun _ _ _ h=>h) (Or.inl ⟨by rfl,?_⟩) hHeld ?_ ?_
            rotate_left
            ·
             rintro w' ⟨s0,s1⟩
             go_simp
             with_reducible rfl
            rotate_left
            ·
             simp only [Act.put,List.setIfInBounds_toArray,List.set_cons_zero,List.set_cons_succ,i64_w,i32_w]
             rfl
            refine take_ (i:=7) (N:=some 48) (v:=?_) (a':=?_) #[true,true,true,true,true,true,true,true,false,false] rfl rfl (take_ofW HT_.out HW_.out (by kernel_rfl)) (fun _ _ _ h=>h) (Or.inl ⟨by rfl,?_⟩) hHeld ?_ ?_
            rotate_left
            ·
             rintro w' ⟨s0,s1⟩
             go_simp
             with_reducible rfl
            rotate_left
            ·
             simp only [Act.put,List.setIfInBounds_toArray,List.set_cons_zero,List.set_cons_succ,i64_w,i32_w]
             rfl
            refine pure_ (i:=8) (N:=some 49) (v:=?_) (a':=?_) #[true,true,true,true,true,true,true,true,true,false] rfl rfl (any_of HT_.out (by kernel_rfl)) (fun _ _ _ h=>h) (Or.inl ⟨by rfl,?_⟩) ?_ ?_
            rotate_left
            ·
             intro w'
             go_simp
             with_reducible rfl
            rotate_left
            ·
             simp only [Act.put,List.setIfInBounds_toArray,List.set_cons_zero,List.set_cons_succ,i64_w,i32_w]
             rfl
            refine one_ (i:=9) (N:=none) #[true,true,true,true,true,true,true,true,true,true] rfl rfl (one_of HT_.out (by kernel_rfl)) (by decide) (fun K hK=>?_)
            have hs17:w16.cell? ⟨gb392,0,none⟩=some (.string x393000_2):=(blk_cell BK392.out 0).trans rfl
            have hfs17:=blk_frozen BK392.out 0
            have hs18:w16.cell? ⟨gb392,1,none⟩=some (.string x393001_2):=(blk_cell BK392.out 1).trans rfl
            have hfs18:=blk_frozen BK392.out 1
            have hs19:w16.cell? ⟨gb392,2,none⟩=some (.bool x393002_2):=(blk_cell BK392.out 2).trans rfl
            have hfs19:=blk_frozen BK392.out 2
            refine skip_ (w1:=?_) (by rfl) rfl ?_ ?_
            rotate_left
            ·
             go_simp
             rfl
            refine hK.out _ _ ⟨((cell_far (p:=⟨gb392,_,none⟩) (by first|exact Nat.ne_of_lt (Nat.lt_of_lt_of_le (by have:=World.block_lt_of_cell? _ _ hw399_0;first|rwa [add_block] at this|exact this) GW392.out)|(rw [add_block];exact Nat.ne_of_lt (Nat.lt_of_lt_of_le (by have:=World.block_lt_of_cell? _ _ hw399_0;first|rwa [add_block] at this|exact this) GW392.out))|(show (Addr.add _ _).block≠_;rw [add_block];exact Nat.ne_of_lt (Nat.lt_of_lt_of_le (by have:=World.block_lt_of_cell? _ _ hw399_0;first|rwa [add_block] at this|exact this) GW392.out))|(dsimp only;exact Nat.ne_of_lt (Nat.lt_of_lt_of_le (by have:=World.block_lt_of_cell? _ _ hw399_0;first|rwa [add_block] at this|exact this) GW392.out))) _).trans (((cell_far (p:=⟨gb392,_,none⟩) (by first|exact Nat.ne_of_lt (Nat.lt_of_lt_of_le (by have:=World.block_lt_of_cell? _ _ hw399_0;first|rwa [add_block] at this|exact this) GW392.out)|(rw [add_block];exact Nat.ne_of_lt (Nat.lt_of_lt_of_le (by have:=World.block_lt_of_cell? _ _ hw399_0;first|rwa [add_block] at this|exact this) GW392.out))|(show (Addr.add _ _).block≠_;rw [add_block];exact Nat.ne_of_lt (Nat.lt_of_lt_of_le (by have:=World.block_lt_of_cell? _ _ hw399_0;first|rwa [add_block] at this|exact this) GW392.out))|(dsimp only;exact Nat.ne_of_lt (Nat.lt_of_lt_of_le (by have:=World.block_lt_of_cell? _ _ hw399_0;first|rwa [add_block] at this|exact this) GW392.out))) _).trans (((cell_far (p:=⟨gb392,_,none⟩) (by first|exact Nat.ne_of_lt (Nat.lt_of_lt_of_le (by have:=World.block_lt_of_cell? _ _ hw399_0;first|rwa [add_block] at this|exact this) GW392.out)|(rw [add_block];exact Nat.ne_of_lt (Nat.lt_of_lt_of_le (by have:=World.block_lt_of_cell? _ _ hw399_0;first|rwa [add_block] at this|exact this) GW392.out))|(show (Addr.add _ _).block≠_;rw [add_block];exact Nat.ne_of_lt (Nat.lt_of_lt_of_le (by have:=World.block_lt_of_cell? _ _ hw399_0;first|rwa [add_block] at this|exact this) GW392.out))|(dsimp only;exact Nat.ne_of_lt (Nat.lt_of_lt_of_le (by have:=World.block_lt_of_cell? _ _ hw399_0;first|rwa [add_block] at this|exact this) GW392.out))) _).trans (hHeld.1)))))),((cell_far (p:=⟨gb392,_,none⟩) (by first|exact Nat.ne_of_lt (Nat.lt_of_lt_of_le (by have:=World.block_lt_of_cell? _ _ hw400_0;first|rwa [add_block] at this|exact this) GW392.out)|(rw [add_block];exact Nat.ne_of_lt (Nat.lt_of_lt_of_le (by have:=World.block_lt_of_cell? _ _ hw400_0;first|rwa [add_block] at this|exact this) GW392.out))|(show (Addr.add _ _).block≠_;rw [add_block];exact Nat.ne_of_lt (Nat.lt_of_lt_of_le (by have:=World.block_lt_of_cell? _ _ hw400_0;first|rwa [add_block] at this|exact this) GW392.out))|(dsimp only;exact Nat.ne_of_lt (Nat.lt_of_lt_of_le (by have:=World.block_lt_of_cell? _ _ hw400_0;first|rwa [add_block] at this|exact this) GW392.out))) _).trans (((cell_far (p:=⟨gb392,_,none⟩) (by first|exact Nat.ne_of_lt (Nat.lt_of_lt_of_le (by have:=World.block_lt_of_cell? _ _ hw400_0;first|rwa [add_block] at this|exact this) GW392.out)|(rw [add_block];exact Nat.ne_of_lt (Nat.lt_of_lt_of_le (by have:=World.block_lt_of_cell? _ _ hw400_0;first|rwa [add_block] at this|exact this) GW392.out))|(show (Addr.add _ _).block≠_;rw [add_block];exact Nat.ne_of_lt (Nat.lt_of_lt_of_le (by have:=World.block_lt_of_cell? _ _ hw400_0;first|rwa [add_block] at this|exact this) GW392.out))|(dsimp only;exact Nat.ne_of_lt (Nat.lt_of_lt_of_le (by have:=World.block_lt_of_cell? _ _ hw400_0;first|rwa [add_block] at this|exact this) GW392.out))) _).trans (((cell_far (p:=⟨gb392,_,none⟩) (by first|exact Nat.ne_of_lt (Nat.lt_of_lt_of_le (by have:=World.block_lt_of_cell? _ _ hw400_0;first|rwa [add_block] at this|exact this) GW392.out)|(rw [add_block];exact Nat.ne_of_lt (Nat.lt_of_lt_of_le (by have:=World.block_lt_of_cell? _ _ hw400_0;first|rwa [add_block] at this|exact this) GW392.out))|(show (Addr.add _ _).block≠_;rw [add_block];exact Nat.ne_of_lt (Nat.lt_of_lt_of_le (by have:=World.block_lt_of_cell? _ _ hw400_0;first|rwa [add_block] at this|exact this) GW392.out))|(dsimp only;exact Nat.ne_of_lt (Nat.lt_of_lt_of_le (by have:=World.block_lt_of_cell? _ _ hw400_0;first|rwa [add_block] at this|exact this) GW392.out))) _).trans (hHeld.2))))))⟩ (fun hHeld=>?_)
            clear hK K
            refine done_ (done_of HT_.out (by kernel_rfl)) ?_
            try go_wp2
            refine bodyPost_ret (results_cell_row rfl _ _ gb392 67 #[.string (rdOf ByteArray.empty l0 x3_1),.string (rdOf ByteArray.empty l0 x4_2),.bool true] (0,0) _ rfl (by (with_reducible repeat (first|refine blk_drewN ?_ _|refine blk_drew ?_|refine blk_alloc ?_ _));refine blk_put (cs:=#[.string (rdOf ByteArray.empty l0 x3_1),.string (rdOf ByteArray.empty l0 x4_2),.bool x393002_2]) ?_ 2 _ rfl;(with_reducible repeat (first|refine blk_drewN ?_ _|refine blk_drew ?_|refine blk_alloc ?_ _));refine blk_put (cs:=#[.string (rdOf ByteArray.empty l0 x3_1),.string x393001_2,.bool x393002_2]) ?_ 1 _ rfl;(with_reducible repeat (first|refine blk_drewN ?_ _|refine blk_drew ?_|refine blk_alloc ?_ _));refine blk_put (cs:=#[.string x393000_2,.string x393001_2,.bool x393002_2]) ?_ 0 _ rfl;(with_reducible repeat (first|refine blk_drewN ?_ _|refine blk_drew ?_|refine blk_alloc ?_ _));exact BK392.out) Try.underlying67 rfl (by kernel_rfl)) rfl ?_
            exact ⟨by first|rfl|(simp [errW_none,errW_some] <;> rfl)|(simp [*,errW_none,errW_some] <;> rfl),by repeat (first|(with_reducible first|exact HB.out|apply below_alloc|apply pw_below_drewN|apply below_drew1|refine below_set ?_ GE392.out)|exact HB.out)⟩
           ·
            rw [if_neg c12] at H
            have c12b0:(t396.toList == t398.toList)=false:=beq_eq_false_iff_ne.mpr c12
            have c12b1:(t396.toList != t398.toList)=true:=bne_iff_ne.mpr c12
            have H':=Aside0.mk H
            clear H
            try go_wp2
            have n0_:=Aside0.mk (blk_drew BK392.out)
            have n1_:=Aside0.mk (below_drew1 HB.out)
            clear BK392
            clear HB
            have BK392:=n0_
            have HB:=n1_
            clear n0_ n1_
            have p393:0≤(x3_1:Int):=of_decide_eq_true (by first|(with_reducible assumption)|assumption)
            have q393:x3_1 < (l0.length:Int):=of_decide_eq_true (by first|(with_reducible assumption)|assumption)
            obtain ⟨ad393,e393,hx393_0⟩:=Kd.at_string HR0.out x3_1 p393 q393
            have hw393_0:=hx393_0
            cases e393
            replace hx393_0:=(HB.out.cell (World.block_lt_of_cell? w _ hx393_0)).trans hx393_0
            replace p393:=eq_true p393
            replace q393:=eq_true q393
            have p394:0≤(x4_2:Int):=of_decide_eq_true (by first|(with_reducible assumption)|assumption)
            have q394:x4_2 < (l0.length:Int):=of_decide_eq_true (by first|(with_reducible assumption)|assumption)
            obtain ⟨ad394,e394,hx394_0⟩:=Kd.at_string HR0.out x4_2 p394 q394
            have hw394_0:=hx394_0
            obtain rfl:ad393=ad394:=(by injection e394)
            replace hx394_0:=(HB.out.cell (World.block_lt_of_cell? w _ hx394_0)).trans hx394_0
            replace p394:=eq_true p394
            replace q394:=eq_true q394
            have p395:0≤(x3_1:Int):=of_decide_eq_true (by first|(with_reducible assumption)|assumption)
            have q395:x3_1 < (l0.length:Int):=of_decide_eq_true (by first|(with_reducible assumption)|assumption)
            obtain ⟨ad395,e395,hx395_0⟩:=Kd.at_string HR0.out x3_1 p395 q395
            have hw395_0:=hx395_0
            obtain rfl:ad393=ad395:=(by injection e395)
            replace hx395_0:=(HB.out.cell (World.block_lt_of_cell? w _ hx395_0)).trans hx395_0
            replace p395:=eq_true p395
            replace q395:=eq_true q395
            have p397:0≤(x4_2:Int):=of_decide_eq_true (by first|(with_reducible assumption)|assumption)
            have q397:x4_2 < (l0.length:Int):=of_decide_eq_true (by first|(with_reducible assumption)|assumption)
            obtain ⟨ad397,e397,hx397_0⟩:=Kd.at_string HR0.out x4_2 p397 q397
            have hw397_0:=hx397_0
            obtain rfl:ad393=ad397:=(by injection e397)
            replace hx397_0:=(HB.out.cell (World.block_lt_of_cell? w _ hx397_0)).trans hx397_0
            replace p397:=eq_true p397
            replace q397:=eq_true q397
            refine start_ (n:=22) (S:=fun w'=>w'.cell? (ad393.add (x3_1).toNat)=some (.string (rdOf ByteArray.empty l0 x3_1))∧w'.cell? (ad393.add (x4_2).toNat)=some (.string (rdOf ByteArray.empty l0 x4_2))∧w'.cell? (ad393.add (x3_1).toNat)=some (.string (rdOf ByteArray.empty l0 x3_1))∧w'.cell? (ad393.add (x4_2).toNat)=some (.string (rdOf ByteArray.empty l0 x4_2))) (ds:=[]) #[false,false,false,false,false,false,false,false,false,false,false,false,false,false,false,false,false,false,false,false,false,false] (by kernel_rfl) rfl rfl ⟨((HB.out.cell (World.block_lt_of_cell? w _ hw393_0)).trans hw393_0),((HB.out.cell (World.block_lt_of_cell? w _ hw394_0)).trans hw394_0),((HB.out.cell (World.block_lt_of_cell? w _ hw395_0)).trans hw395_0),((HB.out.cell (World.block_lt_of_cell? w _ hw397_0)).trans hw397_0)⟩ (fun hHeld=>?_);refine with_tabW mosaicref03_Witness.tab7 mosaicref03_Witness.bits7 (fun HT_ HW_=>?_)
            generalize wr.drew=w20 at BK392 HB hx393_0 hx394_0 hx395_0 hx397_0 hHeld ⊢
            refine pure_ (i:=0) (N:=some 19) (v:=?_) (a':=?_) #[true,false,false,false,false,false,false,false,false,false,false,false,false,false,false,false,false,false,false,false,false,false] rfl rfl (any_of HT_.out (by kernel_rfl)) (fun _ _ _ h=>h) (Or.inl ⟨by rfl,?_⟩) ?_ ?_
            rotate_left
            ·
             intro w'
             go_simp
             with_reducible rfl
            rotate_left
            ·
             simp only [Act.put,List.setIfInBounds_toArray,List.set_cons_zero,List.set_cons_succ,i64_w,i32_w]
             rfl
            refine pure_ (i:=1) (N:=some 20) (v:=?_) (a':=?_) #[true,true,false,false,false,false,false,false,false,false,false,false,false,false,false,false,false,false,false,false,false,false] rfl rfl (any_of HT_.out (by kernel_rfl)) (fun _ _ _ h=>h) (Or.inl ⟨by rfl,?_⟩) ?_ ?_
            rotate_left
            ·
             intro w'
             go_simp
             with_reducible rfl
            rotate_left
            ·
             simp only [Act.put,List.setIfInBounds_toArray,List.set_cons_zero,List.set_cons_succ,i64_w,i32_w]
             rfl
            refine pure_ (i:=2) (N:=some 21) (v:=?_) (a':=?_) #[true,true,true,false,false,false,false,false,false,false,false,false,false,false,false,false,false,false,false,false,false,false] rfl rfl (any_of HT_.out (by kernel_rfl)) (fun _ _ _ h=>h) (Or.inl ⟨by rfl,?_⟩) ?_ ?_
            rotate_left
            ·
             intro w'
             go_simp
             with_reducible rfl
            rotate_left
            ·
             simp only [Act.put,List.setIfInBounds_toArray,List.set_cons_zero,List.set_cons_succ,i64_w,i32_w]
             rfl
            refine pure_ (i:=4) (N:=some 23) (v:=?_) (a':=?_) #[true,true,true,false,true,false,false,false,false,false,false,false,false,false,false,false,false,false,false,false,false,false] rfl rfl (any_of HT_.out (by kernel_rfl)) (fun _ _ _ h=>h) (Or.inl ⟨by rfl,?_⟩) ?_ ?_
            rotate_left
            ·
             intro w'
             go_simp
             with_reducible rfl
            rotate_left
            ·
             simp only [Act.put,List.setIfInBounds_toArray,List.set_cons_zero,List.set_cons_succ,i64_w,i32_w]
             rfl
            refine pure_ (i:=5) (N:=some 24) (v:=?_) (a':=?_) #[true,true,true,false,true,true,false,false,false,false,false,false,false,false,false,false,false,false,false,false,false,false] rfl rfl (any_of HT_.out (by kernel_rfl)) (fun _ _ _ h=>h) (Or.inl ⟨by rfl,?_⟩) ?_ ?_
            rotate_left
            ·
             intro w'
             go_simp
             with_reducible rfl
            rotate_left
            ·
             simp only [Act.put,List.setIfInBounds_toArray,List.set_cons_zero,List.set_cons_succ,i64_w,i32_w]
             rfl
            refine pure_ (i:=6) (N:=some 25) (v:=?_) (a':=?_) #[true,true,true,false,true,true,true,false,false,false,false,false,false,false,false,false,false,false,false,false,false,false] rfl rfl (any_of HT_.out (by kernel_rfl)) (fun _ _ _ h=>h) (Or.inl ⟨by rfl,?_⟩) ?_ ?_
            rotate_left
            ·
             intro w'
             go_simp
             with_reducible rfl
            rotate_left
            ·
             simp only [Act.put,List.setIfInBounds_toArray,List.set_cons_zero,List.set_cons_succ,i64_w,i32_w]
             rfl
            refine take_ (i:=3) (N:=some 22) (v:=?_) (a':=?_) #[true,true,true,true,true,true,true,false,false,false,false,false,false,false,false,false,false,false,false,false,false,false] rfl rfl (take_ofW HT_.out HW_.out (by kernel_rfl)) (fun _ _ _ h=>h) (Or.inl ⟨by rfl,?_⟩) hHeld ?_ ?_
            rotate_left
            ·
             rintro w' ⟨s0,s1,s2,s3⟩
             go_simp
             with_reducible rfl
            rotate_left
            ·
             simp only [Act.put,List.setIfInBounds_toArray,List.set_cons_zero,List.set_cons_succ,i64_w,i32_w]
             rfl
            refine take_ (i:=7) (N:=some 26) (v:=?_) (a':=?_) #[true,true,true,true,true,true,true,true,false,false,false,false,false,false,false,false,false,false,false,false,false,false] rfl rfl (take_ofW HT_.out HW_.out (by kernel_rfl)) (fun _ _ _ h=>h) (Or.inl ⟨by rfl,?_⟩) hHeld ?_ ?_
            rotate_left
            ·
             rintro w' ⟨s0,s1,s2,s3⟩
             go_simp
             with_reducible rfl
            rotate_left
            ·
             simp only [Act.put,List.setIfInBounds_toArray,List.set_cons_zero,List.set_cons_succ,i64_w,i32_w]
             rfl
            refine pure_ (i:=8) (N:=some 27) (v:=?_) (a':=?_) #[true,true,true,true,true,true,true,true,true,false,false,false,false,false,false,false,false,false,false,false,false,false] rfl rfl (any_of HT_.out (by kernel_rfl)) (fun _ _ _ h=>h) (Or.inl ⟨by rfl,?_⟩) ?_ ?_
            rotate_left
            ·
             intro w'
             go_simp
             with_reducible rfl
            rotate_left
            ·
             simp only [Act.put,List.setIfInBounds_toArray,List.set_cons_zero,List.set_cons_succ,i64_w,i32_w]
             rfl
            refine pure_ (i:=9) (N:=some 28) (v:=?_) (a':=?_) #[true,true,true,true,true,true,true,true,true,true,false,false,false,false,false,false,false,false,false,false,false,false] rfl rfl (any_of HT_.out (by kernel_rfl)) (fun _ _ _ h=>h) (Or.inl ⟨by rfl,?_⟩) ?_ ?_
            rotate_left
            ·
             intro w'
             go_simp
             with_reducible rfl
            rotate_left
            ·
             simp only [Act.put,List.setIfInBounds_toArray,List.set_cons_zero,List.set_cons_succ,i64_w,i32_w]
             rfl
            refine pure_ (i:=10) (N:=some 29) (v:=?_) (a':=?_) #[true,true,true,true,true,true,true,true,true,true,true,false,false,false,false,false,false,false,false,false,false,false] rfl rfl (any_of HT_.out (by kernel_rfl)) (fun _ _ _ h=>h) (Or.inl ⟨by rfl,?_⟩) ?_ ?_
            rotate_left
            ·
             intro w'
             go_simp
             with_reducible rfl
            rotate_left
            ·
             simp only [Act.put,List.setIfInBounds_toArray,List.set_cons_zero,List.set_cons_succ,i64_w,i32_w]
             rfl
            refine pure_ (i:=11) (N:=some 30) (v:=?_) (a':=?_) #[true,true,true,true,true,true,true,true,true,true,true,true,false,false,false,false,false,false,false,false,false,false] rfl rfl (any_of HT_.out (by kernel_rfl)) (fun _ _ _ h=>h) (Or.inl ⟨by rfl,?_⟩) ?_ ?_
            rotate_left
            ·
             intro w'
             go_simp
             with_reducible rfl
            rotate_left
            ·
             simp only [Act.put,List.setIfInBounds_toArray,List.set_cons_zero,List.set_cons_succ,i64_w,i32_w]
             rfl
            refine pure_ (i:=12) (N:=some 31) (v:=?_) (a':=?_) #[true,true,true,true,true,true,true,true,true,true,true,true,true,false,false,false,false,false,false,false,false,false] rfl rfl (any_of HT_.out (by kernel_rfl)) (fun _ _ _ h=>h) (Or.inl ⟨by rfl,?_⟩) ?_ ?_
            rotate_left
            ·
             intro w'
             go_simp
             with_reducible rfl
            rotate_left
            ·
             simp only [Act.put,List.setIfInBounds_toArray,List.set_cons_zero,List.set_cons_succ,i64_w,i32_w]
             rfl
            refine pure_ (i:=15) (N:=some 34) (v:=?_) (a':=?_) #[true,true,true,true,true,true,true,true,true,true,true,true,true,false,false,true,false,false,false,false,false,false] rfl rfl (any_of HT_.out (by kernel_rfl)) (fun _ _ _ h=>h) (Or.inl ⟨by rfl,?_⟩) ?_ ?_
            rotate_left
            ·
             intro w'
             go_simp
             with_reducible rfl
            rotate_left
            ·
             simp only [Act.put,List.setIfInBounds_toArray,List.set_cons_zero,List.set_cons_succ,i64_w,i32_w]
             rfl
            refine pure_ (i:=16) (N:=some 35) (v:=?_) (a':=?_) #[true,true,true,true,true,true,true,true,true,true,true,true,true,false,false,true,true,false,false,false,false,false] rfl rfl (any_of HT_.out (by kernel_rfl)) (fun _ _ _ h=>h) (Or.inl ⟨by rfl,?_⟩) ?_ ?_
            rotate_left
            ·
             intro w'
             go_simp
             with_reducible rfl
            rotate_left
            ·
             simp only [Act.put,List.setIfInBounds_toArray,List.set_cons_zero,List.set_cons_succ,i64_w,i32_w]
             rfl
            refine pure_ (i:=17) (N:=some 36) (v:=?_) (a':=?_) #[true,true,true,true,true,true,true,true,true,true,true,true,true,false,false,true,true,true,false,false,false,false] rfl rfl (any_of HT_.out (by kernel_rfl)) (fun _ _ _ h=>h) (Or.inl ⟨by rfl,?_⟩) ?_ ?_
            rotate_left
            ·
             intro w'
             go_simp
             with_reducible rfl
            rotate_left
            ·
             simp only [Act.put,List.setIfInBounds_toArray,List.set_cons_zero,List.set_cons_succ,i64_w,i32_w]
             rfl
            refine take_ (i:=13) (N:=some 32) (v:=?_) (a':=?_) #[true,true,true,true,true,true,true,true,true,true,true,true,true,true,false,true,true,true,false,false,false,false] rfl rfl (take_ofW HT_.out HW_.out (by kernel_rfl)) (fun _ _ _ h=>h) (Or.inl ⟨by rfl,?_⟩) hHeld ?_ ?_
            rotate_left
            ·
             rintro w' ⟨s0,s1,s2,s3⟩
             go_simp
             with_reducible rfl
            rotate_left
            ·
             simp only [Act.put,List.setIfInBounds_toArray,List.set_cons_zero,List.set_cons_succ,i64_w,i32_w]
             rfl
            refine take_ (i:=18) (N:=some 37) (v:=?_) (a':=?_) #[true,true,true,true,true,true,true,true,true,true,true,true,true,true,false,true,true,true,true,false,false,false] rfl rfl (take_ofW HT_.out HW_.out (by kernel_rfl)) (fun _ _ _ h=>h) (Or.inl ⟨by rfl,?_⟩) hHeld ?_ ?_
            rotate_left
            ·
             rintro w' ⟨s0,s1,s2,s3⟩
             go_simp
             with_reducible rfl
            rotate_left
            ·
             simp only [Act.put,List.setIfInBounds_toArray,List.set_cons_zero,List.set_cons_succ,i64_w,i32_w]
             rfl
            refine one_ (i:=14) (N:=some 33) #[true,true,true,true,true,true,true,true,true,true,true,true,true,true,true,true,true,true,true,false,false,false] rfl rfl (one_of HT_.out (by kernel_rfl)) (by decide) (fun K hK=>?_)
            refine goes_ Try.func27 (by kernel_rfl) rfl #[.string (rdOf ByteArray.empty l0 x3_1)] (by rfl) rfl rfl (by (try simp only [List.map_toArray,List.map_cons,List.map_nil]);first|done|rfl|(simp only [List.length_drop,List.length_take];rfl)) ?_
            with_reducible refine (mosaicref01_Sum.calls k2 (rdOf ByteArray.empty l0 x3_1) t396 _ A10.out).mono ?_
            rintro e w21 ⟨rfl,hb⟩
            refine ⟨_,rfl,?_⟩
            have n0_:=Aside0.mk (blk_below (g:=gb392) (o:=.cells #[.string x393000_2,.string x393001_2,.bool x393002_2] 67 (0,0)) (by (with_reducible repeat (first|refine blk_drewN ?_ _|refine blk_drew ?_|refine blk_alloc ?_ _));exact BK392.out) hb)
            have n1_:=Aside0.mk (below_step (by repeat (first|(with_reducible first|exact HB.out|apply below_alloc|apply pw_below_drewN|apply below_drew1|refine below_set ?_ GE392.out)|exact HB.out)) hb)
            clear BK392
            clear HB
            have BK392:=n0_
            have HB:=n1_
            clear n0_ n1_
            (try clear hb)
            (try clear hb2)
            (try clear hk)
            (try clear hi)
            refine hK.out _ _ ⟨((HB.out.cell (World.block_lt_of_cell? w _ hw393_0)).trans hw393_0),((HB.out.cell (World.block_lt_of_cell? w _ hw394_0)).trans hw394_0),((HB.out.cell (World.block_lt_of_cell? w _ hw395_0)).trans hw395_0),((HB.out.cell (World.block_lt_of_cell? w _ hw397_0)).trans hw397_0)⟩ (fun hHeld=>?_)
            clear hK K
            refine norm_ (a':=?_) ?_ ?_
            rotate_left
            ·
             show Act.put _ (some 33) _=_
             simp only [Act.put,List.setIfInBounds_toArray,List.set_cons_zero,List.set_cons_succ,i64_w,i32_w]
             rfl
            refine one_ (i:=19) (N:=some 38) #[true,true,true,true,true,true,true,true,true,true,true,true,true,true,true,true,true,true,true,true,false,false] rfl rfl (one_of HT_.out (by kernel_rfl)) (by decide) (fun K hK=>?_)
            refine goes_ Try.func27 (by kernel_rfl) rfl #[.string (rdOf ByteArray.empty l0 x4_2)] (by rfl) rfl rfl (by (try simp only [List.map_toArray,List.map_cons,List.map_nil]);first|done|rfl|(simp only [List.length_drop,List.length_take];rfl)) ?_
            with_reducible refine (mosaicref01_Sum.calls k2 (rdOf ByteArray.empty l0 x4_2) t398 _ A11.out).mono ?_
            rintro e w22 ⟨rfl,hb⟩
            refine ⟨_,rfl,?_⟩
            have n0_:=Aside0.mk (blk_below (g:=gb392) (o:=.cells #[.string x393000_2,.string x393001_2,.bool x393002_2] 67 (0,0)) (by (with_reducible repeat (first|refine blk_drewN ?_ _|refine blk_drew ?_|refine blk_alloc ?_ _));exact BK392.out) hb)
            have n1_:=Aside0.mk (below_step (by repeat (first|(with_reducible first|exact HB.out|apply below_alloc|apply pw_below_drewN|apply below_drew1|refine below_set ?_ GE392.out)|exact HB.out)) hb)
            clear BK392
            clear HB
            have BK392:=n0_
            have HB:=n1_
            clear n0_ n1_
            (try clear hb)
            (try clear hb2)
            (try clear hk)
            (try clear hi)
            refine hK.out _ _ ⟨((HB.out.cell (World.block_lt_of_cell? w _ hw393_0)).trans hw393_0),((HB.out.cell (World.block_lt_of_cell? w _ hw394_0)).trans hw394_0),((HB.out.cell (World.block_lt_of_cell? w _ hw395_0)).trans hw395_0),((HB.out.cell (World.block_lt_of_cell? w _ hw397_0)).trans hw397_0)⟩ (fun hHeld=>?_)
            clear hK K
            refine norm_ (a':=?_) ?_ ?_
            rotate_left
            ·
             show Act.put _ (some 38) _=_
             simp only [Act.put,List.setIfInBounds_toArray,List.set_cons_zero,List.set_cons_succ,i64_w,i32_w]
             rfl
            refine pure_ (i:=20) (N:=some 39) (v:=?_) (a':=?_) #[true,true,true,true,true,true,true,true,true,true,true,true,true,true,true,true,true,true,true,true,true,false] rfl rfl (any_of HT_.out (by kernel_rfl)) (fun _ _ _ h=>h) (Or.inl ⟨by rfl,?_⟩) ?_ ?_
            rotate_left
            ·
             intro w'
             go_simp
             with_reducible rfl
            rotate_left
            ·
             simp only [Act.put,List.setIfInBounds_toArray,List.set_cons_zero,List.set_cons_succ,i64_w,i32_w]
             rfl
            refine pure_ (i:=21) (N:=some 40) (v:=?_) (a':=?_) #[true,true,true,true,true,true,true,true,true,true,true,true,true,true,true,true,true,true,true,true,true,true] rfl rfl (any_of HT_.out (by kernel_rfl)) (fun _ _ _ h=>h) (Or.inl ⟨by rfl,?_⟩) ?_ ?_
            rotate_left
            ·
             intro w'
             go_simp
             with_reducible rfl
            rotate_left
            ·
             simp only [Act.put,List.setIfInBounds_toArray,List.set_cons_zero,List.set_cons_succ,i64_w,i32_w]
             rfl
            refine done_ (done_of HT_.out (by kernel_rfl)) ?_
            try go_wp2
            go_roundg k2
            case measure=>have:=HK1.out;have:=HK2.out;omega
            case rel=>exact ⟨(wrap64 (x4_2+1)),(x393000_2),(x393001_2),(x393002_2),(by first|rfl|(simp;done)|(simp [*];done)),H',⟨by have:=HK1.out;have:=HK2.out;omega⟩,⟨by (with_reducible repeat (first|refine blk_drewN ?_ _|refine blk_drew ?_|refine blk_alloc ?_ _));exact BK392.out⟩,⟨by repeat (first|(with_reducible first|exact HB.out|apply below_alloc|apply pw_below_drewN|apply below_drew1|refine below_set ?_ GE392.out)|exact HB.out)⟩⟩
         ·
          rw [if_neg c7] at H
          exact absurd H (by simp)
        ·
         rw [if_neg c6] at H
         exact absurd H (by simp)
       ·
        rw [if_neg c5] at H
        exact absurd H (by simp)
      ·
       rw [if_neg c4] at H
       have c4b0:decide (x4_2 < (l0.length:Int))=false:=decide_eq_false c4
       clear c4
       have H':=Aside0.mk H
       clear H
       go_wp2
       go_roundg k2
       case measure=>have:=HK1.out;have:=HK2.out;omega
       case rel=>exact ⟨(wrap64 (x3_1+1)),(x393000_2),(x393001_2),(x393002_2),(by first|rfl|(simp;done)|(simp [*];done)),H',⟨by have:=HK1.out;have:=HK2.out;omega⟩,⟨by (with_reducible repeat (first|refine blk_drewN ?_ _|refine blk_drew ?_|refine blk_alloc ?_ _));exact BK392.out⟩,⟨by repeat (first|(with_reducible first|exact HB.out|apply below_alloc|apply pw_below_drewN|apply below_drew1|refine below_set ?_ GE392.out)|exact HB.out)⟩⟩
   ·
    rw [if_neg c3] at H
    have c3b0:decide (x3_1 < (l0.length:Int))=false:=decide_eq_false c3
    clear c3
    simp only [Option.some.injEq,Prod.mk.injEq] at H
    obtain ⟨rfl,rfl,rfl⟩:=H
    have hcz23_0:wr.cell? ⟨gb392,0,none⟩=some (.string x393000_1):=(blk_cell BK392.out 0).trans rfl
    have hcz23_1:wr.cell? ⟨gb392,1,none⟩=some (.string x393001_1):=(blk_cell BK392.out 1).trans rfl
    have hcz23_2:wr.cell? ⟨gb392,2,none⟩=some (.bool x393002_1):=(blk_cell BK392.out 2).trans rfl
    have hfz23_0:=blk_frozen BK392.out 0
    have hfz23_1:=blk_frozen BK392.out 1
    have hfz23_2:=blk_frozen BK392.out 2
    go_wp2
    refine bodyPost_ret (results_cell_row rfl _ _ gb392 67 #[.string (⟨#[]⟩:ByteArray),.string (⟨#[]⟩:ByteArray),.bool false] (0,0) _ rfl (by (with_reducible repeat (first|refine blk_drewN ?_ _|refine blk_drew ?_|refine blk_alloc ?_ _));refine blk_put (cs:=#[.string (⟨#[]⟩:ByteArray),.string (⟨#[]⟩:ByteArray),.bool x393002_1]) ?_ 2 _ rfl;(with_reducible repeat (first|refine blk_drewN ?_ _|refine blk_drew ?_|refine blk_alloc ?_ _));refine blk_put (cs:=#[.string (⟨#[]⟩:ByteArray),.string x393001_1,.bool x393002_1]) ?_ 1 _ rfl;(with_reducible repeat (first|refine blk_drewN ?_ _|refine blk_drew ?_|refine blk_alloc ?_ _));refine blk_put (cs:=#[.string x393000_1,.string x393001_1,.bool x393002_1]) ?_ 0 _ rfl;(with_reducible repeat (first|refine blk_drewN ?_ _|refine blk_drew ?_|refine blk_alloc ?_ _));exact BK392.out) Try.underlying67 rfl (by kernel_rfl)) rfl ?_
    exact ⟨by first|rfl|(simp [errW_none,errW_some] <;> rfl)|(simp [*,errW_none,errW_some] <;> rfl),by repeat (first|(with_reducible first|exact HB.out|apply below_alloc|apply pw_below_drewN|apply below_drew1|refine below_set ?_ GE392.out)|exact HB.out)⟩
end Go.Proofs.Ytelcaepenfjloaa.Print
/-! #### PureWit -/
/- Two unlike texts of one sum: the first ones. -/
namespace Go.Proofs.Ytelcaepenfjloaa.Pure
open Go.RowKit Go.Proofs.Ytelcaepenfjloaa.Print Go.Proofs.YtelcaepenfjloaaW.PrintWords Go.Proofs.YtelcaepenfjloaaW.PrintLast Go.Proofs.YtelcaepenfjloaaW.PrintMore
set_option linter.unusedVariables false
set_option linter.unusedSimpArgs false
theorem toList_inj {a b:ByteArray} (h:a.toList=b.toList):a=b:=by
 rw [Go.ByteArray.toList_eq,Go.ByteArray.toList_eq] at h
 exact ByteArray.ext (Array.toList_inj.1 h)
def clash (a b:ByteArray):Bool:=decide (a≠b∧shaSum a=shaSum b)
/-- The first text of l that clashes with a. -/
def witIn (a:ByteArray):List ByteArray→Option ByteArray
 | []=>none
 | b :: l=>if clash a b=true then some b else witIn a l
def witL:List ByteArray→Option (ByteArray×ByteArray)
 | []=>none
 | a :: l=>match witIn a l with
  | some b=>some (a,b)
  | none=>witL l
def witR (l:List ByteArray):ByteArray×ByteArray×Bool :=
 match witL l with
 | some (a,b)=>(a,b,true)
 | none=>((⟨#[]⟩:ByteArray),(⟨#[]⟩:ByteArray),false)
def witS (o:Option ByteArray) (a:ByteArray) (l:List ByteArray):ByteArray×ByteArray×Bool :=
 match o with
 | some b=>(a,b,true)
 | none=>witR l
theorem witR_cons (a:ByteArray) (l:List ByteArray):witR (a :: l)=witS (witIn a l) a l:=by
 unfold witS witR
 rw [witL]
 cases witIn a l <;> rfl
theorem sums_getD (l:List ByteArray) (i:Nat) (h:i < l.length):(l.map shaSum).getD i ByteArray.empty=shaSum (l.getD i ByteArray.empty):=by
 simp [List.getD_eq_getElem?_getD,h]
theorem wit_l12 (l:List ByteArray) (hl:l.length≤100000) (d:Nat) :
  (∀ i:Nat,i≤l.length→l.length - i=d→Ev (fun k=>merkle_Witness.l1 k l (l.map shaSum) (l.length:Int) (i:Int)) (witR (l.drop i))):=by
 induction d with
 | zero =>
  intro i hi hd
  refine Ev.succ ?_
  simp only [merkle_Witness.l1]
  refine Ev.neg (by omega) (Ev.some_ ?_)
  rw [List.drop_of_length_le (by omega)]
  rfl
 | succ d ih =>
  intro i hi hd
  refine Ev.succ ?_
  simp only [merkle_Witness.l1]
  refine Ev.pos (by omega) ?_
  rw [wrap_succ i (by omega),drop_getD l i (by omega),witR_cons]
  have inner:∀ (e:Nat) (j:Nat),j≤l.length→l.length - j=e→Ev (fun k=>merkle_Witness.l2 k l (l.map shaSum) (i:Int) (j:Int) (l.length:Int) (i:Int)) (witS (witIn (l.getD i ByteArray.empty) (l.drop j)) (l.getD i ByteArray.empty) (l.drop (i+1))):=by
   intro e
   induction e with
   | zero =>
    intro j hj he
    refine Ev.succ ?_
    simp only [merkle_Witness.l2]
    rw [wrap_succ i (by omega),List.drop_of_length_le (show l.length≤j by omega)]
    exact Ev.neg (by omega) (ih (i+1) (by omega) (by omega))
   | succ e ihe =>
    intro j hj he
    have hlm:(l.map shaSum).length=l.length:=List.length_map _
    refine Ev.succ ?_
    simp only [merkle_Witness.l2]
    rw [rdOf_at,rdOf_at,rdOf_at,rdOf_at,sums_getD l i (by omega),sums_getD l j (by omega),wrap_succ j (by omega),drop_getD l j (by omega),witIn]
    have ha:∀ p:Prop,[Decidable p]→(p↔(l.getD i ByteArray.empty≠l.getD j ByteArray.empty∧shaSum (l.getD i ByteArray.empty)=shaSum (l.getD j ByteArray.empty)))→(clash (l.getD i ByteArray.empty) (l.getD j ByteArray.empty)=decide p):=by
     intro p _ hp
     unfold clash
     rw [decide_eq_decide]
     exact hp.symm
    have next:=ihe (j+1) (by omega) (by omega)
    refine Ev.pos (by omega) (Ev.pos (by omega) (Ev.pos (by omega) (Ev.pos (by omega) (Ev.pos (by omega) ?_))))
    by_cases c:shaSum (l.getD i ByteArray.empty)=shaSum (l.getD j ByteArray.empty)
    ·
     refine Ev.pos (by rw [c]) (Ev.pos (by omega) ?_)
     by_cases q:l.getD i ByteArray.empty=l.getD j ByteArray.empty
     ·
      refine Ev.pos (by rw [q]) ?_
      rw [if_neg (by rw [q];unfold clash;simp)]
      exact next
     ·
      refine Ev.neg (fun h=>q (toList_inj h)) (Ev.some_ ?_)
      rw [if_pos (by unfold clash;simp only [decide_eq_true_eq];exact ⟨q,c⟩)]
      rfl
    ·
     refine Ev.neg (fun h=>c (toList_inj h)) ?_
     rw [if_neg (by unfold clash;simp only [decide_eq_true_eq];exact fun h=>c h.2)]
     exact next
  exact inner _ (i+1) (by omega) rfl
theorem wit_l0 (l:List ByteArray) (hl:l.length≤100000) (hs:∀ s∈l,s.size≤65536) (d:Nat):∀ i:Nat,i+d=l.length→Ev (fun k=>merkle_Witness.l0 k l ((l.take i).map shaSum) l (l.length:Int) (i:Int)) (witR l):=by
 induction d with
 | zero =>
  intro i hi
  refine Ev.succ ?_
  simp only [merkle_Witness.l0]
  rw [List.take_of_length_le (by omega)]
  exact Ev.neg (by omega) (wit_l12 l hl l.length 0 (by omega) (by omega))
 | succ d ih =>
  intro i hi
  refine Ev.succ ?_
  simp only [merkle_Witness.l0]
  have:=ih (i+1) (by omega)
  rw [take_getD l i (by omega),List.map_append] at this
  rw [rdOf_at,sha_f _ (hs _ (getD_mem l i (by omega))),wrap_succ i (by omega)]
  exact Ev.pos (by omega) (Ev.pos (by omega) (Ev.pos (by omega) (Ev.some_bind (Ev.pos (by simp;omega) this))))
theorem wit_ev (l:List ByteArray) (hl:l.length≤100000) (hs:∀ s∈l,s.size≤65536):Ev (fun k=>merkle_Witness.f k l) (witR l):=wit_l0 l hl hs l.length 0 (by omega)
end Go.Proofs.Ytelcaepenfjloaa.Pure
/-! #### PureMer4 -/
/- The texts that are summed for a list; that a path folds to the root; that what folds to the root is the leaf's, or two unlike texts have one sum. -/
namespace Go.Proofs.Ytelcaepenfjloaa.Pure
open Go.RowKit Go.Proofs.Ytelcaepenfjloaa.Print Go.Proofs.YtelcaepenfjloaaW.PrintWords Go.Proofs.YtelcaepenfjloaaW.PrintLast Go.Proofs.YtelcaepenfjloaaW.PrintMore
set_option linter.unusedVariables false
set_option linter.unusedSimpArgs false
def textsM (l:List ByteArray):List ByteArray :=
 if h:l.length≤1 then [leafT (l.headD ByteArray.empty)]
 else textsM (l.take (halfN l.length)) ++ textsM (l.drop (halfN l.length)) ++ [knotT (topM ((l.take (halfN l.length)).map leafD)) (topM ((l.drop (halfN l.length)).map leafD))]
termination_by l.length
decreasing_by
 ·
  have:=halfN_lt l.length (by omega)
  rw [List.length_take]
  omega
 ·
  have:=halfN_pos l.length
  rw [List.length_drop]
  omega
theorem textsM_one (a:ByteArray):textsM [a]=[leafT a]:=by
 rw [textsM]
 rfl
theorem textsM_two (l:List ByteArray) (h:2≤l.length):textsM l=textsM (l.take (halfN l.length)) ++ textsM (l.drop (halfN l.length)) ++ [knotT (topM ((l.take (halfN l.length)).map leafD)) (topM ((l.drop (halfN l.length)).map leafD))]:=by
 conv=>lhs;rw [textsM]
 rw [dif_neg (by omega)]
theorem textsM_length (n:Nat):∀ l:List ByteArray,l.length=n→1≤n→(textsM l).length=2 * n - 1:=by
 induction n using Nat.strongRecOn with
 | _ n ih =>
  intro l hl h1
  by_cases h:n=1
  ·
   obtain ⟨a,rfl⟩:=list1 l (by omega)
   rw [textsM_one]
   simp
   omega
  ·
   have hlt:=halfN_lt l.length (by omega)
   have hps:=halfN_pos l.length
   rw [textsM_two l (by omega),List.length_append,List.length_append,ih (halfN l.length) (by omega) (l.take (halfN l.length)) (by rw [List.length_take];exact Nat.min_eq_left (by omega)) (by omega),ih (l.length - halfN l.length) (by omega) (l.drop (halfN l.length)) List.length_drop (by omega)]
   simp only [List.length_singleton]
   omega
theorem textsM_size (n:Nat):∀ l:List ByteArray,l.length=n→1≤n→(∀ s∈l,s.size≤60000)→∀ t∈textsM l,t.size≤60001:=by
 induction n using Nat.strongRecOn with
 | _ n ih =>
  intro l hl h1 hs t ht
  by_cases h:n=1
  ·
   obtain ⟨a,rfl⟩:=list1 l (by omega)
   rw [textsM_one] at ht
   have hz:=leafT_size a
   have:=hs a (by simp)
   have:t=leafT a:=by simpa using ht
   subst this
   omega
  ·
   have hlt:=halfN_lt l.length (by omega)
   have hps:=halfN_pos l.length
   have e1:(l.take (halfN l.length)).length=halfN l.length:=by rw [List.length_take];exact Nat.min_eq_left (by omega)
   have e2:(l.drop (halfN l.length)).length=l.length - halfN l.length:=List.length_drop
   rw [textsM_two l (by omega)] at ht
   rcases List.mem_append.1 ht with ht|ht
   ·
    rcases List.mem_append.1 ht with ht|ht
    ·
     exact ih _ (by omega) _ e1 (by omega) (fun s hx=>hs s (List.mem_of_mem_take hx)) t ht
    ·
     exact ih _ (by omega) _ e2 (by omega) (fun s hx=>hs s (List.mem_of_mem_drop hx)) t ht
   ·
    have z1:=topM_size _ ((l.take (halfN l.length)).map leafD) rfl (by rw [List.length_map,e1];omega) (leafs_size _)
    have z2:=topM_size _ ((l.drop (halfN l.length)).map leafD) rfl (by rw [List.length_map,e2];omega) (leafs_size _)
    have hz:=knotT_size (topM ((l.take (halfN l.length)).map leafD)) (topM ((l.drop (halfN l.length)).map leafD))
    have:t=knotT (topM ((l.take (halfN l.length)).map leafD)) (topM ((l.drop (halfN l.length)).map leafD)):=by simpa using ht
    subst this
    omega
/-- The last text: its sum is the root. -/
def lastT (l:List ByteArray):ByteArray:=if l.length≤1 then leafT (l.headD ByteArray.empty) else knotT (topM ((l.take (halfN l.length)).map leafD)) (topM ((l.drop (halfN l.length)).map leafD))
theorem texts_l0 (l:List ByteArray) (h:2≤l.length) (hn:l.length≤1000) (hs:∀ s∈l,s.size≤60000)
  (i1:Ev (fun k=>merkle_texts.f k (l.take (halfN l.length))) (textsM (l.take (halfN l.length)),topM ((l.take (halfN l.length)).map leafD)))
  (i2:Ev (fun k=>merkle_texts.f k (l.drop (halfN l.length))) (textsM (l.drop (halfN l.length)),topM ((l.drop (halfN l.length)).map leafD))) (d:Nat) :
  ∀ j:Nat,j+d=(l.length - 1).log2→Ev (fun k=>merkle_texts.l0 k l ((2 ^ j:Nat):Int)) (textsM l,topM (l.map leafD)):=by
 have hlt:=halfN_lt l.length h
 have hge:=halfN_ge l.length
 have hps:=halfN_pos l.length
 induction d with
 | zero =>
  intro j hj
  have e:halfN l.length=2 ^ j:=by unfold halfN;rw [← hj];rfl
  refine Ev.succ ?_
  simp only [merkle_texts.l0]
  have e1:(l.take (halfN l.length)).length=halfN l.length:=by rw [List.length_take];exact Nat.min_eq_left (by omega)
  have e2:(l.drop (halfN l.length)).length=l.length - halfN l.length:=List.length_drop
  have z1:=topM_size _ ((l.take (halfN l.length)).map leafD) rfl (by rw [List.length_map,e1];omega) (leafs_size _)
  have z2:=topM_size _ ((l.drop (halfN l.length)).map leafD) rfl (by rw [List.length_map,e2];omega) (leafs_size _)
  have t1:=textsM_length _ (l.take (halfN l.length)) e1 (by omega)
  have t2:=textsM_length _ (l.drop (halfN l.length)) e2 (by omega)
  have hz:=knotT_size (topM ((l.take (halfN l.length)).map leafD)) (topM ((l.drop (halfN l.length)).map leafD))
  have hcs:concatSum [textsM (l.take (halfN l.length)),textsM (l.drop (halfN l.length))]≤8796093022208:=by
   simp only [concatSum]
   omega
  have hc:slices_Concat_string_string.f [textsM (l.take (halfN l.length)),textsM (l.drop (halfN l.length))]=some (textsM (l.take (halfN l.length)) ++ textsM (l.drop (halfN l.length))):=by
   unfold slices_Concat_string_string.f
   rw [if_pos hcs]
   simp
  have hk:=knot_f (topM ((l.take (halfN l.length)).map leafD)) (topM ((l.drop (halfN l.length)).map leafD)) (by omega)
  have hsf:=sha_f (knotT (topM ((l.take (halfN l.length)).map leafD)) (topM ((l.drop (halfN l.length)).map leafD))) (by omega)
  rw [← e]
  have w:wrap64 (2 * (halfN l.length:Int))=2 * (halfN l.length:Int):=by unfold wrap64;omega
  rw [w]
  refine Ev.neg (by omega) (Ev.pos (by omega) (Ev.pos (by omega) (Ev.bind i1 (Ev.bind i2 (Ev.call hk (Ev.call hc (Ev.pos (by rw [List.length_append];omega) (Ev.call hsf (Ev.some_ ?_)))))))))
  rw [← textsM_two l h,topM_two (l.map leafD) (by rw [List.length_map];omega),List.length_map,List.map_take,List.map_drop]
  rfl
 | succ d ih =>
  intro j hj
  have:=ih (j+1) (by omega)
  have hle:2 ^ (j+1)≤halfN l.length:=Nat.pow_le_pow_right (by decide) (by omega)
  rw [Nat.pow_succ] at this hle
  refine Ev.succ ?_
  simp only [merkle_texts.l0]
  generalize 2 ^ j=x at this hle ⊢
  have w:wrap64 ((x:Int) * 2)=((x * 2:Nat):Int):=by unfold wrap64;omega
  have w2:wrap64 (2 * (x:Int))=2 * (x:Int):=by unfold wrap64;omega
  rw [w,w2]
  exact Ev.pos (by omega) this
theorem texts_ev (n:Nat):∀ l:List ByteArray,l.length=n→1≤n→n≤1000→(∀ s∈l,s.size≤60000)→Ev (fun k=>merkle_texts.f k l) (textsM l,topM (l.map leafD)):=by
 induction n using Nat.strongRecOn with
 | _ n ih =>
  intro l hl h1 hn hs
  refine Ev.succ ?_
  simp only [merkle_texts.f]
  by_cases h:n=1
  ·
   obtain ⟨a,rfl⟩:=list1 l (by omega)
   have ha:=hs a (by simp)
   have hr:rdOf ByteArray.empty [a] 0=a:=rfl
   rw [hr,leaf_f a (by omega)]
   refine Ev.pos rfl (Ev.pos (by simp) (Ev.pos (by omega) (Ev.some_bind (Ev.some_ ?_))))
   rw [textsM_one]
   show ([leafT a],leafD a)=([leafT a],topM [leafD a])
   rw [topM_one]
  ·
   have hlt:=halfN_lt l.length (by omega)
   have hps:=halfN_pos l.length
   have e1:(l.take (halfN l.length)).length=halfN l.length:=by rw [List.length_take];exact Nat.min_eq_left (by omega)
   have e2:(l.drop (halfN l.length)).length=l.length - halfN l.length:=List.length_drop
   have i1:=ih _ (by omega) (l.take (halfN l.length)) e1 (by omega) (by omega) (fun s hx=>hs s (List.mem_of_mem_take hx))
   have i2:=ih _ (by omega) (l.drop (halfN l.length)) e2 (by omega) (by omega) (fun s hx=>hs s (List.mem_of_mem_drop hx))
   exact Ev.neg (by omega) (texts_l0 l (by omega) (by omega) hs i1 i2 _ 0 (Nat.zero_add _))
def textsP (l:List ByteArray):List ByteArray:=if mayM l=0 then textsM l else []
theorem Texts_ev (l:List ByteArray):Ev (fun k=>merkle_Texts.f k l) (textsP l):=by
 unfold merkle_Texts.f textsP
 refine Ev.call (show merkle_may.f l=some (mayM l) from rfl) ?_
 by_cases h:mayM l=0
 ·
  obtain ⟨h1,h2,h3⟩:=mayM_zero h
  rw [if_pos h]
  exact Ev.pos h (Ev.bind (texts_ev l.length l rfl h1 (by omega) (fun s hs=>by have:=h3 s hs;omega)) (Ev.some_ rfl))
 ·
  rw [if_neg h]
  exact Ev.neg h (Ev.some_ rfl)
/-! ### The path of a leaf folds to the root -/
/-! ### What folds to the root -/
theorem data_toList_append (a b:ByteArray):(a ++ b).data.toList=a.data.toList ++ b.data.toList:=by
 rw [ByteArray.data_append,Array.toList_append]
theorem ext_list {a b:ByteArray} (h:a.data.toList=b.data.toList):a=b:=ByteArray.ext (Array.toList_inj.1 h)
theorem size_list (a:ByteArray):a.data.toList.length=a.size:=data_length a
theorem knotT_inj {a b c d:ByteArray} (h:knotT a b=knotT c d) (hs:a.size=c.size):a=c∧b=d:=by
 have h1:(knotT a b).data.toList=(knotT c d).data.toList:=by rw [h]
 unfold knotT at h1
 rw [data_toList_append,data_toList_append,data_toList_append,data_toList_append,List.append_assoc,List.append_assoc] at h1
 have h2:=(List.append_cancel_left h1)
 have h3:=List.append_inj h2 (by rw [size_list,size_list,hs])
 exact ⟨ext_list h3.1,ext_list h3.2⟩
theorem clash_or (n:Nat):∀ (l:List ByteArray) (i:Nat) (d:ByteArray) (p:List ByteArray),l.length=n→1≤n→i < n→p.length=depthM n i→d.size=32→(∀ x∈p,x.size=32)→(climbR n i d p).1=topM (l.map leafD) →
  d=leafD (l.getD i ByteArray.empty)∨∃ a∈textsM l,∃ b∈(climbR n i d p).2,a≠b∧shaSum a=shaSum b:=by
 induction n using Nat.strongRecOn with
 | _ n ih =>
  intro l i d p hl h1 hi hp hd hs hr
  by_cases h:n=1
  ·
   obtain ⟨a,rfl⟩:=list1 l (by omega)
   have:i=0:=by omega
   subst this
   rw [depthM_one n 0 (by omega)] at hp
   have hp0:p=[]:=List.eq_nil_of_length_eq_zero hp
   subst hp0
   left
   rw [climbR_nil] at hr
   show d=leafD a
   exact hr.trans (topM_one _)
  ·
   have hlt:=halfN_lt n (by omega)
   have hps:=halfN_pos n
   have hm:(l.map leafD).length=n:=by rw [List.length_map,hl]
   have e1:(l.take (halfN n)).length=halfN n:=by rw [List.length_take];exact Nat.min_eq_left (by omega)
   have e2:(l.drop (halfN n)).length=n - halfN n:=by rw [List.length_drop,hl]
   have z1:=topM_size _ ((l.take (halfN n)).map leafD) rfl (by rw [List.length_map,e1];omega) (leafs_size _)
   have z2:=topM_size _ ((l.drop (halfN n)).map leafD) rfl (by rw [List.length_map,e2];omega) (leafs_size _)
   have htop:topM (l.map leafD)=shaSum (knotT (topM ((l.take (halfN n)).map leafD)) (topM ((l.drop (halfN n)).map leafD))):=by
    rw [topM_two _ (by omega),hm,List.map_take,List.map_drop]
    rfl
   have htx:textsM l=textsM (l.take (halfN n)) ++ textsM (l.drop (halfN n)) ++ [knotT (topM ((l.take (halfN n)).map leafD)) (topM ((l.drop (halfN n)).map leafD))]:=by
    rw [textsM_two l (by omega),hl]
   by_cases c:i < halfN n
   ·
    rw [depthM_left n i (by omega) c] at hp
    obtain ⟨q,x,rfl,hq⟩:=snoc p _ hp
    have hsq:∀ y∈q,y.size=32:=fun y hy=>hs y (by simp [hy])
    rw [climbR_left n i d q x c] at hr ⊢
    have hz:=climbR_size (halfN n) i d q hd
    by_cases e:knotT (topM ((l.take (halfN n)).map leafD)) (topM ((l.drop (halfN n)).map leafD))=knotT (climbR (halfN n) i d q).1 x
    ·
     obtain ⟨f1,f2⟩:=knotT_inj e (by rw [z1,hz])
     rcases ih (halfN n) hlt (l.take (halfN n)) i d q e1 (by omega) c hq hd hsq f1.symm with g|⟨a,ha,b,hb,g⟩
     ·
      left
      rw [getD_take _ _ _ _ c] at g
      exact g
     ·
      right
      exact ⟨a,by rw [htx];exact List.mem_append_left _ (List.mem_append_left _ ha),b,List.mem_append_left _ hb,g⟩
    ·
     right
     exact ⟨_,by rw [htx];exact List.mem_append_right _ (List.mem_singleton.2 rfl),_,List.mem_append_right _ (List.mem_singleton.2 rfl),e,by rw [← htop];exact hr.symm⟩
   ·
    rw [depthM_right n i (by omega) c] at hp
    obtain ⟨q,x,rfl,hq⟩:=snoc p _ hp
    have hx:x.size=32:=hs x (by simp)
    have hsq:∀ y∈q,y.size=32:=fun y hy=>hs y (by simp [hy])
    rw [climbR_right n i d q x c] at hr ⊢
    by_cases e:knotT (topM ((l.take (halfN n)).map leafD)) (topM ((l.drop (halfN n)).map leafD))=knotT x (climbR (n - halfN n) (i - halfN n) d q).1
    ·
     obtain ⟨f1,f2⟩:=knotT_inj e (by rw [z1,hx])
     rcases ih (n - halfN n) (by omega) (l.drop (halfN n)) (i - halfN n) d q e2 (by omega) (by omega) hq hd hsq f2.symm with g|⟨a,ha,b,hb,g⟩
     ·
      left
      rw [getD_drop,show halfN n+(i - halfN n)=i by omega] at g
      exact g
     ·
      right
      exact ⟨a,by rw [htx];exact List.mem_append_left _ (List.mem_append_right _ ha),b,List.mem_append_left _ hb,g⟩
    ·
     right
     exact ⟨_,by rw [htx];exact List.mem_append_right _ (List.mem_singleton.2 rfl),_,List.mem_append_right _ (List.mem_singleton.2 rfl),e,by rw [← htop];exact hr.symm⟩
/-! ### A witness is told where there is one -/
theorem clash_iff (a b:ByteArray):clash a b=true↔a≠b∧shaSum a=shaSum b:=by
 unfold clash
 rw [decide_eq_true_eq]
theorem witIn_some {a b:ByteArray}:∀ {l:List ByteArray},witIn a l=some b→clash a b=true∧b∈l
 | [],h=>by simp [witIn] at h
 | c :: l,h=>by
  rw [witIn] at h
  split at h
  ·
   rename_i hc
   obtain rfl:=Option.some.inj h
   exact ⟨hc,by simp⟩
  ·
   have:=witIn_some h
   exact ⟨this.1,List.mem_cons.2 (.inr this.2)⟩
theorem witIn_none {a:ByteArray}:∀ {l:List ByteArray},witIn a l=none→∀ b∈l,¬ clash a b=true
 | [],_,b,hb=>by simp at hb
 | c :: l,h,b,hb=>by
  rw [witIn] at h
  split at h
  ·
   simp at h
  ·
   rename_i hc
   rcases List.mem_cons.1 hb with rfl|hb
   ·
    exact hc
   ·
    exact witIn_none h b hb
theorem witL_some:∀ {l:List ByteArray} {a b:ByteArray},witL l=some (a,b)→clash a b=true∧a∈l∧b∈l
 | [],a,b,h=>by simp [witL] at h
 | c :: l,a,b,h=>by
  rw [witL] at h
  cases hw:witIn c l with
  | some d =>
   rw [hw] at h
   obtain ⟨rfl,rfl⟩:=Prod.mk.inj (Option.some.inj h)
   have:=witIn_some hw
   exact ⟨this.1,by simp,List.mem_cons.2 (.inr this.2)⟩
  | none =>
   rw [hw] at h
   have:=witL_some h
   exact ⟨this.1,List.mem_cons.2 (.inr this.2.1),List.mem_cons.2 (.inr this.2.2)⟩
theorem witL_found:∀ (t r:List ByteArray) (a b:ByteArray),a∈t→b∈r→clash a b=true→witL (t ++ r)≠none
 | [],r,a,b,ha,_,_=>by simp at ha
 | c :: t,r,a,b,ha,hb,hc=>by
  show witL (c :: (t ++ r))≠none
  rw [witL]
  cases hw:witIn c (t ++ r) with
  | some d=>simp
  | none =>
   rcases List.mem_cons.1 ha with rfl|ha
   ·
    exact absurd hc (witIn_none hw b (List.mem_append_right _ hb))
   ·
    exact witL_found t r a b ha hb hc
/-- Two lists with a clash between them have a witness. -/
theorem witR_found (t r:List ByteArray) (h:∃ a∈t,∃ b∈r,a≠b∧shaSum a=shaSum b):(witR (t ++ r)).2.2=true∧(witR (t ++ r)).1≠(witR (t ++ r)).2.1∧shaSum (witR (t ++ r)).1=shaSum (witR (t ++ r)).2.1∧(witR (t ++ r)).1∈t ++ r∧(witR (t ++ r)).2.1∈t ++ r:=by
 obtain ⟨a,ha,b,hb,h1,h2⟩:=h
 have hn:=witL_found t r a b ha hb ((clash_iff a b).2 ⟨h1,h2⟩)
 unfold witR
 cases hw:witL (t ++ r) with
 | none=>exact absurd hw hn
 | some x =>
  obtain ⟨x,y⟩:=x
  obtain ⟨g1,g2,g3⟩:=witL_some hw
  obtain ⟨g4,g5⟩:=(clash_iff x y).1 g1
  exact ⟨rfl,g4,g5,g2,g3⟩
theorem climb_texts_size (n i:Nat) (d:ByteArray):∀ (k:Nat) (n i:Nat) (p:List ByteArray),p.length=k→d.size=32→(∀ x∈p,x.size=32)→∀ t∈(climbR n i d p).2,t.size=65:=by
 intro k
 induction k with
 | zero =>
  intro n i p hp hd hs t ht
  have:p=[]:=List.eq_nil_of_length_eq_zero hp
  subst this
  rw [climbR_nil] at ht
  simp at ht
 | succ k ih =>
  intro n i p hp hd hs t ht
  obtain ⟨q,x,rfl,hq⟩:=snoc p k hp
  have hx:x.size=32:=hs x (by simp)
  have hsq:∀ y∈q,y.size=32:=fun y hy=>hs y (by simp [hy])
  by_cases c:i < halfN n
  ·
   rw [climbR_left n i d q x c] at ht
   rcases List.mem_append.1 ht with ht|ht
   ·
    exact ih _ _ q hq hd hsq t ht
   ·
    have:t=knotT (climbR (halfN n) i d q).1 x:=by simpa using ht
    rw [this,knotT_size,climbR_size _ _ _ _ hd,hx]
  ·
   rw [climbR_right n i d q x c] at ht
   rcases List.mem_append.1 ht with ht|ht
   ·
    exact ih _ _ q hq hd hsq t ht
   ·
    have:t=knotT x (climbR (n - halfN n) (i - halfN n) d q).1:=by simpa using ht
    rw [this,knotT_size,climbR_size _ _ _ _ hd,hx]
end Go.Proofs.Ytelcaepenfjloaa.Pure
/-! #### PureMer5 -/
/- The index of a law, the path's sizes, the last text of a road. -/
namespace Go.Proofs.Ytelcaepenfjloaa.Pure
open Go.RowKit Go.Proofs.Ytelcaepenfjloaa.Print Go.Proofs.YtelcaepenfjloaaW.PrintWords Go.Proofs.YtelcaepenfjloaaW.PrintLast Go.Proofs.YtelcaepenfjloaaW.PrintMore
set_option linter.unusedVariables false
set_option linter.unusedSimpArgs false
theorem mayM_of (l:List ByteArray) (h1:1≤l.length) (h2:l.length≤256) (h3:∀ s∈l,(s.size:Int)≤1024):mayM l=0:=by
 unfold mayM
 rw [if_neg (by omega),if_neg (by omega),if_neg ?_]
 rw [Bool.not_eq_true,List.any_eq_false]
 intro s hs
 have:=h3 s hs
 unfold longB
 simp only [decide_eq_true_eq]
 omega
theorem idx (a:Int) (n:Nat) (h1:1≤n) (hn:n≤1000):∃ i:Nat,i < n∧Int.tmod (wrap64 (Int.tmod a n+n)) n=(i:Int):=by
 have x1:=Int.lt_tmod_of_pos a (show (0:Int) < n by omega)
 have x2:=Int.tmod_lt_of_pos a (show (0:Int) < n by omega)
 generalize Int.tmod a n=x at x1 x2
 have w:wrap64 (x+n)=x+n:=by unfold wrap64;omega
 rw [w,Int.tmod_eq_emod_of_nonneg (by omega)]
 have y1:=Int.emod_nonneg (x+n) (show (n:Int)≠0 by omega)
 have y2:=Int.emod_lt_of_pos (x+n) (show (0:Int) < n by omega)
 exact ⟨((x+n) % n).toNat,by omega,by omega⟩
end Go.Proofs.Ytelcaepenfjloaa.Pure
/-! #### PureMerkleDigests -/
/- A digest that folds to the root is the leaf's, or the texts tell two unlike ones with one sum. -/
namespace Go.Proofs.Ytelcaepenfjloaa.Pure
open Go.RowKit Go.Proofs.Ytelcaepenfjloaa.Print Go.Proofs.YtelcaepenfjloaaW.PrintWords Go.Proofs.YtelcaepenfjloaaW.PrintLast
set_option linter.unusedVariables false
theorem digests_j0 (l:List ByteArray) (a x y:Int) (d:ByteArray) (p:List ByteArray) (b:Bool) (h:b=true):Ev (fun k=>mosaiclaw03_MerkleDigests.j0 k l a b x y d p) true:=by
 subst h
 refine Ev.succ ?_
 simp only [mosaiclaw03_MerkleDigests.j0]
 exact Ev.pos trivial (Ev.bind awake03 (Ev.some_ rfl))
theorem digests_j2 (l:List ByteArray) (a x y:Int) (d:ByteArray) (p:List ByteArray) (b:Bool) (h:b=true):Ev (fun k=>mosaiclaw03_MerkleDigests.j2 k l a b x y d p) true:=by
 subst h
 refine Ev.succ ?_
 simp only [mosaiclaw03_MerkleDigests.j2]
 exact Ev.pos trivial (Ev.some_ rfl)
theorem digests_wit (l:List ByteArray) (x y:Int) (i:Nat) (d:ByteArray) (p:List ByteArray) (h1:1≤l.length) (h2:l.length≤256) (hi:i < l.length) (hs:∀ s∈l,s.size≤1024)
  (hf:foldsP l.length i d p=0) (hc:(foldC l.length i d p).1=topM (l.map leafD)) (hd:d≠leafD (l.getD i ByteArray.empty)) (hm:mayM l=0) :
  Ev (fun k=>mosaiclaw03_MerkleDigests.j2 k l (i:Int) false x y d p) true:=by
 obtain ⟨_,hp,hz,hps⟩:=foldsP_zero hf
 have hcl:=clash_or l.length l i d p rfl h1 hi hp hz hps hc
 have hex:=hcl.resolve_left hd
 have hdl:=depthM_le l.length i
 have hpl:p.length=depthM l.length i:=hp
 have htl:=textsM_length _ l rfl h1
 have hcn:(climbP l.length i d p).length=p.length:=by
  unfold climbP
  rw [if_pos hf,foldC_length]
 have hw:=witR_found (textsM l) (climbP l.length i d p) (by
  unfold climbP
  rw [if_pos hf]
  exact hex)
 have hsz:∀ s∈textsM l ++ climbP l.length i d p,s.size≤65536:=by
  intro s hx
  rcases List.mem_append.1 hx with hx|hx
  ·
   have:=textsM_size _ l rfl h1 (fun s hx=>by have:=hs s hx;omega) s hx
   omega
  ·
   unfold climbP at hx
   rw [if_pos hf] at hx
   have:=climb_texts_size 0 0 d p.length l.length i p rfl hz hps s hx
   omega
 have hT:=Texts_ev l
 unfold textsP at hT
 rw [if_pos hm] at hT
 have hW:=wit_ev (textsM l ++ climbP l.length i d p) (by rw [List.length_append];omega) hsz
 generalize witR (textsM l ++ climbP l.length i d p)=w at hw hW
 obtain ⟨w1,w2,w3⟩:=w
 obtain ⟨g1,g2,g3,g4,g5⟩:=hw
 refine Ev.succ ?_
 simp only [mosaiclaw03_MerkleDigests.j2]
 refine Ev.neg (by simp) (Ev.bind hT (Ev.bind (Climb_ev l.length i d p) (Ev.pos (by omega) (Ev.bind hW (Ev.pos g1 (Ev.neg (fun h=>g2 (toList_inj h)) (Ev.bind (refsum_ev _ (hsz _ g4)) (Ev.bind (refsum_ev _ (hsz _ g5)) (Ev.some_ ?_)))))))))
 show (shaSum w1).toList == (shaSum w2).toList
 rw [show shaSum w1=shaSum w2 from g3]
 simp
theorem MerkleDigests:mosaiclaw03_MerkleDigests.Pure:=by
 intro l a x y d p
 intros
 refine Ev.rounds ?_
 unfold mosaiclaw03_MerkleDigests.f
 obtain ⟨b,hb,hf⟩:=few_ev l 20 1024 (by omega)
 refine Ev.bind hb ?_
 cases b with
 | false=>exact Ev.neg (by simp) (digests_j0 l a x y d p true rfl)
 | true =>
  obtain ⟨h1,h2⟩:=hf rfl
  refine Ev.pos rfl ?_
  by_cases h0:(l.length:Int)=0
  ·
   exact Ev.pos h0 (digests_j0 l a x y d p true rfl)
  by_cases hd:(d.size:Int) > 100
  ·
   exact Ev.neg h0 (Ev.pos hd (digests_j0 l a x y d p true rfl))
  refine Ev.neg h0 (Ev.neg hd ?_)
  obtain ⟨c,hc,hcf⟩:=few_ev p 12 100 (by omega)
  refine Ev.bind hc ?_
  cases c with
  | false=>exact digests_j0 l a x y d p _ rfl
  | true =>
   have hm:=mayM_of l (by omega) (by omega) h2
   obtain ⟨i,hi,hidx⟩:=idx a l.length (by omega) (by omega)
   refine Ev.succ ?_
   simp only [mosaiclaw03_MerkleDigests.j0]
   have hR:=Root_ev l
   rw [if_pos hm] at hR
   rw [hidx]
   refine Ev.neg (by simp) (Ev.neg h0 (Ev.bind hR (Ev.bind awake03 (Ev.pos rfl (Ev.succ ?_)))))
   simp only [mosaiclaw03_MerkleDigests.j1]
   refine Ev.neg (by simp) (Ev.bind (Check_ev _ l.length i d p) ?_)
   by_cases hk:foldsP l.length i d p=0∧(foldC l.length i d p).1=topM (l.map leafD)
   ·
    rw [decide_eq_true hk,rdOf_at]
    have hs:(l.getD i ByteArray.empty).size≤1024:=by have:=h2 _ (getD_mem l i hi);omega
    refine Ev.pos rfl (Ev.pos (by omega) (Ev.pos (by omega) (Ev.call (leaf_f _ (by omega)) ?_)))
    by_cases hd:d=leafD (l.getD i ByteArray.empty)
    ·
     exact digests_j2 l i x y d p _ (by rw [← hd];simp)
    ·
     rw [beq_eq_false_iff_ne.2 (fun h=>hd (toList_inj h))]
     exact digests_wit l x y i d p (by omega) (by omega) hi (fun s hs=>by have:=h2 s hs;omega) hk.1 hk.2 hd hm
   ·
    rw [decide_eq_false hk]
    exact Ev.neg (by simp) (digests_j2 l i x y d p true rfl)
end Go.Proofs.Ytelcaepenfjloaa.Pure
/-! #### LawMerkleDigests -/
/- The given statement MerkleDigestsSaid is proved: the law mosaiclaw03_MerkleDigests returns true for every input, without a panic; out of its pure statement (YtelcaepenfjloaaPureMerkleDigests) and the walks of the functions that it reaches; no condition beyond the statement's own. -/
namespace Go.Proofs.Ytelcaepenfjloaa.merkleDigests
open Go.ChangeShapes Go.WideShapes Go.ChangeAt Go.RowKit Go.Proofs.Ytelcaepenfjloaa.Print Go.Proofs.YtelcaepenfjloaaW.PrintWords Go.Proofs.Ytelcaepenfjloaa.Open
open Go.ChangeMaps (open_string shut_string)
set_option linter.unusedVariables false
set_option linter.unusedSimpArgs false
theorem own:ownKnob Try.prog.godebug=none:=by kernel_rfl
theorem laidOut:laidOutB Try.prog=true:=by kernel_rfl
set_option maxRecDepth 100000 in
theorem lifted (os:Os) (started:os.Started) (H:Type) (enc:TypeId×Value→H) :
  ReturnsInHanded {} Try.checked os 23 .any (Rows.merkleDigestsSpec.pre6 enc Try.prog Try.f23 Rows.merkleDigestsRow.domain false) (Rows.merkleDigestsSpec.post enc Try.prog Try.f23 false true false false):=by
 refine returnsInHanded_of_change_sized (C:=Try.checked) own started (by kernel_rfl) Try.func23
  (ChangeSpec.witness6 (enc:=enc) (C:=Try.checked) false ⟨#[],#[.slice none 0 0,.int .i64 0,.agg #[.int .i64 0,.int .i64 0,.string ByteArray.empty,.slice none 0 0]],[]⟩ 8 (by kernel_rfl) (by kernel_rfl) (by kernel_rfl) (by kernel_rfl)) ?_
 intro W base args ds gs before hval0 hW hcnd hsz0 _
 have hval:∀ (j:Nat) t v,Try.f23.params[j]?=some t→args[j]?=some v→Value.okWide Try.prog W .any base t v:=hval0
 have hW':=hW
 obtain ⟨p,q,hA0,hV,rfl,hfz,hnd⟩:=hW
 have hA:DataW.TrodAll enc Try.prog W 0 (fun _=>true) true Try.f23.params.toList args.toList ds p:=hA0
 rw [Try.params23] at hA hval
 obtain ⟨v0,vs0,d0,ds0,p0,q0,hargs,rfl,rfl,h0,r0⟩:=trodAll_cons hA
 obtain ⟨v1,vs1,d1,ds1,p1,q1,rfl,rfl,rfl,h1,r1⟩:=trodAll_cons r0
 obtain ⟨v2,vs2,d2,ds2,p2,q2,rfl,rfl,rfl,h2,r2⟩:=trodAll_cons r1
 obtain ⟨rfl,rfl,rfl⟩:=trodAll_nil r2
 obtain rfl:args=#[v0,v1,v2]:=by cases args;simp_all
 obtain ⟨rfl,rfl⟩:=trodVars_none hV
 have lt0:∀ x∈p0,x.block < W.heap.size:=by obtain ⟨m,hm⟩:=h0;exact DataW.trod_lt m _ _ _ hm
 have k0:=h0
 have one0:v0.cells.toList=[v0]:=by obtain ⟨a_,len_,cap_,rfl⟩:=okWide_slice Try.underlying39 (hval 0 39 v0 rfl rfl);rfl
 obtain ⟨A0,c0,l0,rfl,hc0,hr0,hq0⟩:=arg_slice opens39 one0 h0
 obtain ⟨a1,rfl,rfl,rfl,w1⟩:=open_int Try.underlying3 (hval 1 3 v1 rfl rfl) h1
 have lt2:∀ x∈p2,x.block < W.heap.size:=by obtain ⟨m,hm⟩:=h2;exact DataW.trod_lt m _ _ _ hm
 have k2:=h2
 obtain ⟨f2,hf2⟩:=h2
 obtain ⟨x2,hK2,hq2⟩:=opens101.2 enc W f2 _ _ hf2
 obtain ⟨A2_3,c2_3,hcs2,hc2_3,hr2_3⟩:=k101_open hK2
 obtain rfl:=arg_agg Try.underlying101 (hval 2 101 v2 rfl rfl) hcs2
 clear hA0 hval0 hsz0
 obtain ⟨kk,hkk⟩:=Pure.MerkleDigests (l0) (a1) (x2.f0) (x2.f1) (x2.f2) (x2.f3) hq0 w1 hq2.1 hq2.2.1 hq2.2.2.1 hq2.2.2.2
 refine (mosaiclaw03_MerkleDigests.callsT kk A0 c0 l0 a1 (x2.f0) (x2.f1) (x2.f2) A2_3 c2_3 (x2.f3) W hr0 hc0 hr2_3 hc2_3 hkk).mono ?_
 rintro e W' ⟨rfl,hd_⟩
 have bel:Below W.heap.size W W':=hd_
 exact ⟨_,rfl,_,_,_,[],_,[],hW',trodAll_mk1 (shut_bool Try.underlying4 _),(trodAll_cons_mk (Below.trod laidOut (by kernel_rfl) (of_decide_eq_true (by kernel_rfl)) k0 bel lt0) (trodAll_cons_mk (shut_int Try.underlying3 w1) (trodAll_cons_mk (Below.trod laidOut (by kernel_rfl) (of_decide_eq_true (by kernel_rfl)) k2 bel lt2) trodAll_mk0))),rfl,bel.frame _,fun h=>by cases h⟩
theorem facts:joinedFacts Try.pinned.checked.prog 23 Try.f23 Rows.merkleDigestsSpec Rows.merkleDigestsRow=true:=by
 unfold joinedFacts
 simp only [Bool.and_eq_true]
 repeat' apply And.intro
 any_goals (with_reducible exact Fct.mayEnter)
 any_goals ((with_reducible refine Fct.lifts _ ?_);rfl)
 any_goals ((with_reducible refine Fct.make_ _ ?_);rfl)
 all_goals (as_aux_lemma=>kernel_rfl)
theorem over:Rows.merkleDigestsRow.holds Try.pinned (OpenSpec.ofChange Rows.merkleDigestsSpec) :=
 OpenClaim.holds_of_wide 23 Try.f23 rfl rfl rfl rfl rfl rfl rfl ⟨rfl,rfl,rfl,rfl,rfl⟩ rfl rfl rfl rfl rfl (by as_aux_lemma=>kernel_rfl) Try.func23 facts
  (of_decide_eq_true (by as_aux_lemma=>kernel_rfl)) (by unfold Func.isWrapper;first|(rw [if_pos (by decide +kernel)];as_aux_lemma=>kernel_rfl)|(rw [if_neg (by decide +kernel)];exact ⟨rfl,rfl⟩))
  (fun os started H enc _=>lifted os started H enc)
theorem proved:Rows.MerkleDigestsSaid:=over
#print axioms proved
end Go.Proofs.Ytelcaepenfjloaa.merkleDigests
namespace Go.Proofs.Ytelcaepenfjloaa
/-- The row, under a short name, for the claim. -/
theorem merkleDigests_holds:Rows.MerkleDigestsSaid:=merkleDigests.proved
end Go.Proofs.Ytelcaepenfjloaa
