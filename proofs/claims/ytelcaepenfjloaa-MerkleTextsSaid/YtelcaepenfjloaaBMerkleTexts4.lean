/- The proof of the statement MerkleTexts of the seat, part 4 of 6: the functions that it reaches, as plain functions, with the walks that show it, and what they come to; the last part ends in the row. No condition beyond the statement's own. -/
import Derived.IntWalk
import Derived.Test.YtelcaepenfjloaaBMerkleTexts1
import Derived.Test.YtelcaepenfjloaaBMerkleTexts3
/-! #### Pr45 -/
namespace Go.Proofs.Ytelcaepenfjloaa.Print
open Go.RowKit Go.Proofs.YtelcaepenfjloaaW.PrintWords Go.Proofs.YtelcaepenfjloaaW.PrintLast Go.Proofs.YtelcaepenfjloaaW.PrintMore
attribute [local go_sem] max2_int min2_int max_two min_two max_three min_three max_four min_four
set_option linter.unusedVariables false
set_option linter.unusedSimpArgs false
/-! ### mosaiclaw03_awakeT: function 45 -/
def mosaiclaw03_awakeT.f (k:Nat)  : Option (Bool):=(some (([(⟨#[97]⟩:ByteArray),(⟨#[98]⟩:ByteArray),(⟨#[99]⟩:ByteArray)]:List ByteArray):List ByteArray)).bind fun y283=>((merkle_Root.f k y283).bind fun bt286=>((merkle_Path.f k y283 0).bind fun bt288=>((merkle_Path.f k y283 2).bind fun bt292=>((merkle_Leaf.f (⟨#[97]⟩:ByteArray)).bind fun t296=>((merkle_Leaf.f (⟨#[98]⟩:ByteArray)).bind fun t297=>((merkle_Knot.f t296 t297).bind fun t298=>(if bt286.2=0 then (if bt288.2=0 then (if bt292.2=0 then ((merkle_Leaf.f (⟨#[99]⟩:ByteArray)).bind fun t299=>((merkle_Knot.f t298 t299).bind fun t300=>(if bt286.1.toList=t300.toList then (if (bt288.1.length:Int)=2 then (if 0 < (bt288.1.length:Int) then ((merkle_Leaf.f (⟨#[98]⟩:ByteArray)).bind fun t302=>(if (rdOf ByteArray.empty bt288.1 0).toList=t302.toList then (if (bt292.1.length:Int)=1 then (if 0 < (bt292.1.length:Int) then (if (rdOf ByteArray.empty bt292.1 0).toList=t298.toList then (some ((bt286.1.size:Int) == 32)) else (some false)) else (none)) else (some false)) else (some false))) else (none)) else (some false)) else (some false)))) else (some false)) else (some false)) else (some false))))))))
theorem mosaiclaw03_awakeT.mono:∀ k,LeO (mosaiclaw03_awakeT.f k ) (mosaiclaw03_awakeT.f (k+1) ):=by
 intro  k
 unfold mosaiclaw03_awakeT.f
 repeat' first
   | (with_reducible exact merkle_Path.mono _ _ _)
   | (with_reducible exact merkle_Root.mono _ _)
   | (with_reducible exact LeO.refl _)
   | (with_reducible exact LeO.none _)
   | (with_reducible refine LeO.ite ?_ ?_)
   | (with_reducible refine LeO.bind ?_ (fun _=>?_))
   | exact merkle_Path.mono _ _ _
   | exact merkle_Root.mono _ _
   | exact LeO.none _
   | refine LeO.ite ?_ ?_
   | refine LeO.bind ?_ (fun _=>?_)
def mosaiclaw03_awakeT.T6:Bool×List (List Nat×List Nat):=(true,[([],[]),([0],[0]),([1],[1]),([2],[2]),([3,2],[2,3]),([2,4],[2,4]),([5,2],[5]),([6],[6]),([7,6],[6,7]),([6,8],[6,8]),([9,6],[9]),([10],[10]),([10],[10]),([10,10],[10]),([12,13,13,10],[10,12,13]),([11,14,10],[10,11,14]),([10,15],[10,15]),([16,14],[16]),([17],[17]),([18,17],[17,18]),([19,17],[17,19]),([17,20],[17,20]),([21,17],[21]),([22],[22]),([23,22],[22,23]),([24,22],[22,24]),([22,22],[22]),([25,26,22],[22,25,26]),([22,27],[22,27]),([28,26],[28]),([29],[29]),([30,29],[29,30]),([31,29],[29,31]),([29,32],[29,32]),([33,29],[33]),([34],[34]),([35,34],[34,35]),([36,34],[34,36]),([34],[34]),([37,38,34],[34,37,38]),([34,39],[34,39]),([40,34],[40]),([41],[41]),([42,41],[41,42]),([43,41],[41,43]),([41,44],[41,44]),([45,41,0,1,2,3,4,5,6,7,8,9,10,11,12,13,14,15,16,17,18,19,20,21,22,23,24,25,26,27,28,29,30,31,32,33,34,35,36,37,38,39,40,41,42,43,44,45],[45])])
def mosaiclaw03_awakeT.B6:List Nat:=[0,1,3,7,15,31,63,127,255,511,1023,2047,2047,2047,14335,32767,65535,131071,262143,524287,1048575,2097151,4194303,8388607,16777215,33554431,8388607,134217727,268435455,536870911,1073741823,2147483647,4294967295,8589934591,17179869183,34359738367,68719476735,137438953471,34359738367,549755813887,1099511627775,2199023255551,4398046511103,8796093022207,17592186044415,35184372088831,70368744177663]
theorem mosaiclaw03_awakeT.tab6:rtab .any (opsOf Try.f45 6)=mosaiclaw03_awakeT.T6:=by kernel_rfl
theorem mosaiclaw03_awakeT.bits6:waitsOk mosaiclaw03_awakeT.T6.2 mosaiclaw03_awakeT.B6=true:=by kernel_rfl
set_option maxHeartbeats 8000000 in
set_option maxRecDepth 100000 in
theorem mosaiclaw03_awakeT.callsT (k:Nat)  (w:World) (h:mosaiclaw03_awakeT.f k  = some true) :
  Calls Try.prog 45 #[] w fun e w'=>e=.returned (.bool true)∧Below w.heap.size w w':=by
 have HB:=Aside0.mk (Below.refl w.heap.size w)
 have H:((some (([(⟨#[97]⟩:ByteArray),(⟨#[98]⟩:ByteArray),(⟨#[99]⟩:ByteArray)]:List ByteArray):List ByteArray)).bind fun y283=>((merkle_Root.f k y283).bind fun bt286=>((merkle_Path.f k y283 0).bind fun bt288=>((merkle_Path.f k y283 2).bind fun bt292=>((merkle_Leaf.f (⟨#[97]⟩:ByteArray)).bind fun t296=>((merkle_Leaf.f (⟨#[98]⟩:ByteArray)).bind fun t297=>((merkle_Knot.f t296 t297).bind fun t298=>(if bt286.2=0 then (if bt288.2=0 then (if bt292.2=0 then ((merkle_Leaf.f (⟨#[99]⟩:ByteArray)).bind fun t299=>((merkle_Knot.f t298 t299).bind fun t300=>(if bt286.1.toList=t300.toList then (if (bt288.1.length:Int)=2 then (if 0 < (bt288.1.length:Int) then ((merkle_Leaf.f (⟨#[98]⟩:ByteArray)).bind fun t302=>(if (rdOf ByteArray.empty bt288.1 0).toList=t302.toList then (if (bt292.1.length:Int)=1 then (if 0 < (bt292.1.length:Int) then (if (rdOf ByteArray.empty bt292.1 0).toList=t298.toList then (some ((bt286.1.size:Int) == 32)) else (some false)) else (none)) else (some false)) else (some false))) else (none)) else (some false)) else (some false)))) else (some false)) else (some false)) else (some false)))))))))=some true:=h
 clear h
 obtain ⟨y283,hy283⟩:∃ y_:List ByteArray,y_=(([(⟨#[97]⟩:ByteArray),(⟨#[98]⟩:ByteArray),(⟨#[99]⟩:ByteArray)]:List ByteArray)):=⟨_,rfl⟩
 replace H:((merkle_Root.f k y283).bind fun bt286=>((merkle_Path.f k y283 0).bind fun bt288=>((merkle_Path.f k y283 2).bind fun bt292=>((merkle_Leaf.f (⟨#[97]⟩:ByteArray)).bind fun t296=>((merkle_Leaf.f (⟨#[98]⟩:ByteArray)).bind fun t297=>((merkle_Knot.f t296 t297).bind fun t298=>(if bt286.2=0 then (if bt288.2=0 then (if bt292.2=0 then ((merkle_Leaf.f (⟨#[99]⟩:ByteArray)).bind fun t299=>((merkle_Knot.f t298 t299).bind fun t300=>(if bt286.1.toList=t300.toList then (if (bt288.1.length:Int)=2 then (if 0 < (bt288.1.length:Int) then ((merkle_Leaf.f (⟨#[98]⟩:ByteArray)).bind fun t302=>(if (rdOf ByteArray.empty bt288.1 0).toList=t302.toList then (if (bt292.1.length:Int)=1 then (if 0 < (bt292.1.length:Int) then (if (rdOf ByteArray.empty bt292.1 0).toList=t298.toList then (some ((bt286.1.size:Int) == 32)) else (some false)) else (none)) else (some false)) else (some false))) else (none)) else (some false)) else (some false)))) else (some false)) else (some false)) else (some false))))))))=some true:=by first|(rw [hy283];with_reducible exact H)|(have H2_:=(Option.bind_some _ _).symm.trans H;rw [hy283];with_reducible exact H2_)|(have H2_:=(Option.bind_some _ _).symm.trans H;with_reducible exact H2_)|with_reducible exact H|(rw [hy283];exact H)|exact H
 have Ny283:=Aside0.mk hy283
 clear hy283
 replace H:=Option.bind_eq_some_iff.mp H
 obtain ⟨⟨t286,t287⟩,A10,H⟩:=H
 replace H:((merkle_Path.f k y283 0).bind fun bt288=>((merkle_Path.f k y283 2).bind fun bt292=>((merkle_Leaf.f (⟨#[97]⟩:ByteArray)).bind fun t296=>((merkle_Leaf.f (⟨#[98]⟩:ByteArray)).bind fun t297=>((merkle_Knot.f t296 t297).bind fun t298=>(if t287=0 then (if bt288.2=0 then (if bt292.2=0 then ((merkle_Leaf.f (⟨#[99]⟩:ByteArray)).bind fun t299=>((merkle_Knot.f t298 t299).bind fun t300=>(if t286.toList=t300.toList then (if (bt288.1.length:Int)=2 then (if 0 < (bt288.1.length:Int) then ((merkle_Leaf.f (⟨#[98]⟩:ByteArray)).bind fun t302=>(if (rdOf ByteArray.empty bt288.1 0).toList=t302.toList then (if (bt292.1.length:Int)=1 then (if 0 < (bt292.1.length:Int) then (if (rdOf ByteArray.empty bt292.1 0).toList=t298.toList then (some ((t286.size:Int) == 32)) else (some false)) else (none)) else (some false)) else (some false))) else (none)) else (some false)) else (some false)))) else (some false)) else (some false)) else (some false)))))))=some true:=H
 have A1:=Aside0.mk A10
 clear A10
 replace H:=Option.bind_eq_some_iff.mp H
 obtain ⟨⟨t288,t289⟩,A20,H⟩:=H
 replace H:((merkle_Path.f k y283 2).bind fun bt292=>((merkle_Leaf.f (⟨#[97]⟩:ByteArray)).bind fun t296=>((merkle_Leaf.f (⟨#[98]⟩:ByteArray)).bind fun t297=>((merkle_Knot.f t296 t297).bind fun t298=>(if t287=0 then (if t289=0 then (if bt292.2=0 then ((merkle_Leaf.f (⟨#[99]⟩:ByteArray)).bind fun t299=>((merkle_Knot.f t298 t299).bind fun t300=>(if t286.toList=t300.toList then (if (t288.length:Int)=2 then (if 0 < (t288.length:Int) then ((merkle_Leaf.f (⟨#[98]⟩:ByteArray)).bind fun t302=>(if (rdOf ByteArray.empty t288 0).toList=t302.toList then (if (bt292.1.length:Int)=1 then (if 0 < (bt292.1.length:Int) then (if (rdOf ByteArray.empty bt292.1 0).toList=t298.toList then (some ((t286.size:Int) == 32)) else (some false)) else (none)) else (some false)) else (some false))) else (none)) else (some false)) else (some false)))) else (some false)) else (some false)) else (some false))))))=some true:=H
 have A2:=Aside0.mk A20
 clear A20
 replace H:=Option.bind_eq_some_iff.mp H
 obtain ⟨⟨t292,t293⟩,A30,H⟩:=H
 replace H:((merkle_Leaf.f (⟨#[97]⟩:ByteArray)).bind fun t296=>((merkle_Leaf.f (⟨#[98]⟩:ByteArray)).bind fun t297=>((merkle_Knot.f t296 t297).bind fun t298=>(if t287=0 then (if t289=0 then (if t293=0 then ((merkle_Leaf.f (⟨#[99]⟩:ByteArray)).bind fun t299=>((merkle_Knot.f t298 t299).bind fun t300=>(if t286.toList=t300.toList then (if (t288.length:Int)=2 then (if 0 < (t288.length:Int) then ((merkle_Leaf.f (⟨#[98]⟩:ByteArray)).bind fun t302=>(if (rdOf ByteArray.empty t288 0).toList=t302.toList then (if (t292.length:Int)=1 then (if 0 < (t292.length:Int) then (if (rdOf ByteArray.empty t292 0).toList=t298.toList then (some ((t286.size:Int) == 32)) else (some false)) else (none)) else (some false)) else (some false))) else (none)) else (some false)) else (some false)))) else (some false)) else (some false)) else (some false)))))=some true:=H
 have A3:=Aside0.mk A30
 clear A30
 replace H:=Option.bind_eq_some_iff.mp H
 obtain ⟨t296,A40,H⟩:=H
 replace H:((merkle_Leaf.f (⟨#[98]⟩:ByteArray)).bind fun t297=>((merkle_Knot.f t296 t297).bind fun t298=>(if t287=0 then (if t289=0 then (if t293=0 then ((merkle_Leaf.f (⟨#[99]⟩:ByteArray)).bind fun t299=>((merkle_Knot.f t298 t299).bind fun t300=>(if t286.toList=t300.toList then (if (t288.length:Int)=2 then (if 0 < (t288.length:Int) then ((merkle_Leaf.f (⟨#[98]⟩:ByteArray)).bind fun t302=>(if (rdOf ByteArray.empty t288 0).toList=t302.toList then (if (t292.length:Int)=1 then (if 0 < (t292.length:Int) then (if (rdOf ByteArray.empty t292 0).toList=t298.toList then (some ((t286.size:Int) == 32)) else (some false)) else (none)) else (some false)) else (some false))) else (none)) else (some false)) else (some false)))) else (some false)) else (some false)) else (some false))))=some true:=H
 have A4:=Aside0.mk A40
 clear A40
 replace H:=Option.bind_eq_some_iff.mp H
 obtain ⟨t297,A50,H⟩:=H
 replace H:((merkle_Knot.f t296 t297).bind fun t298=>(if t287=0 then (if t289=0 then (if t293=0 then ((merkle_Leaf.f (⟨#[99]⟩:ByteArray)).bind fun t299=>((merkle_Knot.f t298 t299).bind fun t300=>(if t286.toList=t300.toList then (if (t288.length:Int)=2 then (if 0 < (t288.length:Int) then ((merkle_Leaf.f (⟨#[98]⟩:ByteArray)).bind fun t302=>(if (rdOf ByteArray.empty t288 0).toList=t302.toList then (if (t292.length:Int)=1 then (if 0 < (t292.length:Int) then (if (rdOf ByteArray.empty t292 0).toList=t298.toList then (some ((t286.size:Int) == 32)) else (some false)) else (none)) else (some false)) else (some false))) else (none)) else (some false)) else (some false)))) else (some false)) else (some false)) else (some false)))=some true:=H
 have A5:=Aside0.mk A50
 clear A50
 replace H:=Option.bind_eq_some_iff.mp H
 obtain ⟨t298,A60,H⟩:=H
 replace H:(if t287=0 then (if t289=0 then (if t293=0 then ((merkle_Leaf.f (⟨#[99]⟩:ByteArray)).bind fun t299=>((merkle_Knot.f t298 t299).bind fun t300=>(if t286.toList=t300.toList then (if (t288.length:Int)=2 then (if 0 < (t288.length:Int) then ((merkle_Leaf.f (⟨#[98]⟩:ByteArray)).bind fun t302=>(if (rdOf ByteArray.empty t288 0).toList=t302.toList then (if (t292.length:Int)=1 then (if 0 < (t292.length:Int) then (if (rdOf ByteArray.empty t292 0).toList=t298.toList then (some ((t286.size:Int) == 32)) else (some false)) else (none)) else (some false)) else (some false))) else (none)) else (some false)) else (some false)))) else (some false)) else (some false)) else (some false))=some true:=H
 have A6:=Aside0.mk A60
 clear A60
 by_cases c7:t287=0
 ·
  rw [if_pos c7] at H
  have c7b0:(t287 == 0)=true:=beq_iff_eq.mpr c7
  have c7b1:(t287 != 0)=false:=bne_eq_false_iff_eq.mpr c7
  clear c7
  by_cases c8:t289=0
  ·
   rw [if_pos c8] at H
   have c8b0:(t289 == 0)=true:=beq_iff_eq.mpr c8
   have c8b1:(t289 != 0)=false:=bne_eq_false_iff_eq.mpr c8
   clear c8
   by_cases c9:t293=0
   ·
    rw [if_pos c9] at H
    have c9b0:(t293 == 0)=true:=beq_iff_eq.mpr c9
    have c9b1:(t293 != 0)=false:=bne_eq_false_iff_eq.mpr c9
    clear c9
    replace H:=Option.bind_eq_some_iff.mp H
    obtain ⟨t299,A100,H⟩:=H
    replace H:((merkle_Knot.f t298 t299).bind fun t300=>(if t286.toList=t300.toList then (if (t288.length:Int)=2 then (if 0 < (t288.length:Int) then ((merkle_Leaf.f (⟨#[98]⟩:ByteArray)).bind fun t302=>(if (rdOf ByteArray.empty t288 0).toList=t302.toList then (if (t292.length:Int)=1 then (if 0 < (t292.length:Int) then (if (rdOf ByteArray.empty t292 0).toList=t298.toList then (some ((t286.size:Int) == 32)) else (some false)) else (none)) else (some false)) else (some false))) else (none)) else (some false)) else (some false)))=some true:=H
    have A10:=Aside0.mk A100
    clear A100
    replace H:=Option.bind_eq_some_iff.mp H
    obtain ⟨t300,A110,H⟩:=H
    replace H:(if t286.toList=t300.toList then (if (t288.length:Int)=2 then (if 0 < (t288.length:Int) then ((merkle_Leaf.f (⟨#[98]⟩:ByteArray)).bind fun t302=>(if (rdOf ByteArray.empty t288 0).toList=t302.toList then (if (t292.length:Int)=1 then (if 0 < (t292.length:Int) then (if (rdOf ByteArray.empty t292 0).toList=t298.toList then (some ((t286.size:Int) == 32)) else (some false)) else (none)) else (some false)) else (some false))) else (none)) else (some false)) else (some false))=some true:=H
    have A11:=Aside0.mk A110
    clear A110
    by_cases c12:t286.toList=t300.toList
    ·
     rw [if_pos c12] at H
     have c12b0:(t286.toList == t300.toList)=true:=beq_iff_eq.mpr c12
     have c12b1:(t286.toList != t300.toList)=false:=bne_eq_false_iff_eq.mpr c12
     clear c12
     by_cases c13:(t288.length:Int)=2
     ·
      rw [if_pos c13] at H
      have c13b0:((t288.length:Int) == 2)=true:=beq_iff_eq.mpr c13
      have c13b1:((t288.length:Int) != 2)=false:=bne_eq_false_iff_eq.mpr c13
      clear c13
      by_cases c14:0 < (t288.length:Int)
      ·
       rw [if_pos c14] at H
       have c14b0:decide (0 < (t288.length:Int))=true:=decide_eq_true c14
       have c14b1:decide (0 < t288.length)=true:=decide_eq_true (by omega)
       clear c14
       replace H:=Option.bind_eq_some_iff.mp H
       obtain ⟨t302,A150,H⟩:=H
       replace H:(if (rdOf ByteArray.empty t288 0).toList=t302.toList then (if (t292.length:Int)=1 then (if 0 < (t292.length:Int) then (if (rdOf ByteArray.empty t292 0).toList=t298.toList then (some ((t286.size:Int) == 32)) else (some false)) else (none)) else (some false)) else (some false))=some true:=H
       have A15:=Aside0.mk A150
       obtain rfl:t297=t302:=Option.some.inj (A5.out.symm.trans A15.out)
       clear A150
       by_cases c16:(rdOf ByteArray.empty t288 0).toList=t297.toList
       ·
        rw [if_pos c16] at H
        have c16b0:((rdOf ByteArray.empty t288 0).toList == t297.toList)=true:=beq_iff_eq.mpr c16
        have c16b1:((rdOf ByteArray.empty t288 0).toList != t297.toList)=false:=bne_eq_false_iff_eq.mpr c16
        clear c16
        by_cases c17:(t292.length:Int)=1
        ·
         rw [if_pos c17] at H
         have c17b0:((t292.length:Int) == 1)=true:=beq_iff_eq.mpr c17
         have c17b1:((t292.length:Int) != 1)=false:=bne_eq_false_iff_eq.mpr c17
         clear c17
         by_cases c18:0 < (t292.length:Int)
         ·
          rw [if_pos c18] at H
          have c18b0:decide (0 < (t292.length:Int))=true:=decide_eq_true c18
          have c18b1:decide (0 < t292.length)=true:=decide_eq_true (by omega)
          clear c18
          by_cases c19:(rdOf ByteArray.empty t292 0).toList=t298.toList
          ·
           rw [if_pos c19] at H
           have c19b0:((rdOf ByteArray.empty t292 0).toList == t298.toList)=true:=beq_iff_eq.mpr c19
           have c19b1:((rdOf ByteArray.empty t292 0).toList != t298.toList)=false:=bne_eq_false_iff_eq.mpr c19
           clear c19
           first|(obtain rfl:=Option.some.inj H)|(have HT_:=Option.some.inj H)
           go_enter Try.func45,Try.ntmps45
           try go_wp2_with (first|((with_reducible refine gate_dst (N:=9) rfl ?_);(try (refine gate_guard (by rfl) ?_;dsimp only));refine Kd.R_lit Kd.string _ 9 ?hg (N:=9) ?hd (xs:=([(⟨#[97]⟩:ByteArray),(⟨#[98]⟩:ByteArray),(⟨#[99]⟩:ByteArray)]:List ByteArray)) (inner:=[.string (⟨#[97]⟩:ByteArray),.string (⟨#[98]⟩:ByteArray),.string (⟨#[99]⟩:ByteArray)]) (ok:=fun _=>True) (okp:=fun _=>True) ?hr ?hp (fun _ hk=>hk) trivial (Below.refl _ _) (Nat.le_refl _) (by simp) ?_;(case hd=>rfl);(case hg=>rfl);(case hr=>first|(go_simp;done)|(go_simp;rfl));(case hp=>exact (Reps.one (show Kd.M Kd.string _ _ _ (⟨#[97]⟩:ByteArray) [.string (⟨#[97]⟩:ByteArray)] from rfl) (Reps.one (show Kd.M Kd.string _ _ _ (⟨#[98]⟩:ByteArray) [.string (⟨#[98]⟩:ByteArray)] from rfl) (Reps.one (show Kd.M Kd.string _ _ _ (⟨#[99]⟩:ByteArray) [.string (⟨#[99]⟩:ByteArray)] from rfl) (Reps.none _ _)))));intro v284 w20 ho21 hb hg_ hnew_;clear hg_ hnew_;(first|rw [← Ny283.out] at ho21|(simp only [Int.reduceToNat] at ho21;rw [← Ny283.out] at ho21));have n0_:=Aside0.mk (Kd.R_lower ho21 (below_size (by repeat (first|(with_reducible first|exact HB.out|apply below_alloc|apply pw_below_drewN|apply below_drew1)|exact HB.out))));have n1_:=Aside0.mk (below_step (by repeat (first|(with_reducible first|exact HB.out|apply below_alloc|apply pw_below_drewN|apply below_drew1)|exact HB.out)) hb);clear HB;have HO285:=n0_;have HB:=n1_;clear n0_ n1_;clear hb ho21;obtain ⟨Ao22,co22,eo22⟩:=Kd.R_slice HO285.out;subst eo22)|((with_reducible refine gate_callee (f:=46) rfl ?_);refine goesL_ (some 12) rfl rfl Try.func46 (by kernel_rfl) rfl #[.slice Ao22 y283.length co22] rfl (by (try simp only [List.map_toArray,List.map_cons,List.map_nil]);first|done|rfl|(simp only [List.length_drop,List.length_take];rfl)) ?_;(with_reducible refine (merkle_Root.calls k _ _ y283 t286 t287 _ ?side1 ?side2 A1.out).mono ?_);(case side1=>repeat (first|exact (Kd.R_reads' HO285.out).2.2|(with_reducible refine Kd.C_alloc ?_ _)|(with_reducible refine Kd.C_drewN ?_ _)|(with_reducible refine Kd.C_drew ?_)));(case side2=>exact (Kd.R_reads' HO285.out).2.1);rintro e w23 ⟨rfl,hb⟩;refine ⟨_,rfl,?_⟩;have n0_:=Aside0.mk (Kd.R_below (by (with_reducible repeat (first|apply Kd.R_alloc|apply Kd.R_drewN|apply Kd.R_drew));exact HO285.out) hb);have n1_:=Aside0.mk (below_step (by repeat (first|(with_reducible first|exact HB.out|apply below_alloc|apply pw_below_drewN|apply below_drew1)|exact HB.out)) hb);clear HO285;clear HB;have HO285:=n0_;have HB:=n1_;clear n0_ n1_;(try clear hb);(try clear hb2);(try clear hk);(try clear hi))|((with_reducible refine gate_callee (f:=52) rfl ?_);refine goesL_ (some 17) rfl rfl Try.func52 (by kernel_rfl) rfl #[.slice Ao22 y283.length co22,.int .i64 0] rfl (by (try simp only [List.map_toArray,List.map_cons,List.map_nil]);first|done|rfl|(simp only [List.length_drop,List.length_take];rfl)) ?_;(with_reducible refine (merkle_Path.calls k _ _ y283 0 t288 t289 _ ?side1 ?side2 A2.out).mono ?_);(case side1=>repeat (first|exact (Kd.R_reads' HO285.out).2.2|(with_reducible refine Kd.C_alloc ?_ _)|(with_reducible refine Kd.C_drewN ?_ _)|(with_reducible refine Kd.C_drew ?_)));(case side2=>exact (Kd.R_reads' HO285.out).2.1);rintro e w24 ⟨v290,rfl,ho0,hb⟩;refine ⟨_,rfl,?_⟩;have n0_:=Aside0.mk (Kd.R_elder' (by (with_reducible repeat (first|apply Kd.R_alloc|apply Kd.R_drewN|apply Kd.R_drew));exact HO285.out) (Kd.R_base ho0) hb);have n1_:=Aside0.mk (Kd.R_lower (Kd.R_new' ho0 (Kd.R_lt (by (with_reducible repeat (first|apply Kd.R_alloc|apply Kd.R_drewN|apply Kd.R_drew));exact HO285.out))) (below_size (by repeat (first|(with_reducible first|exact HB.out|apply below_alloc|apply pw_below_drewN|apply below_drew1)|exact HB.out))));have n2_:=Aside0.mk (below_step (by repeat (first|(with_reducible first|exact HB.out|apply below_alloc|apply pw_below_drewN|apply below_drew1)|exact HB.out)) hb);clear HO285;clear HB;have HO285:=n0_;have HO291:=n1_;have HB:=n2_;clear n0_ n1_ n2_;(try clear hb);(try clear hb2);(try clear hk);(try clear hi);(try clear ho0))|((with_reducible refine gate_callee (f:=52) rfl ?_);refine goesL_ (some 22) rfl rfl Try.func52 (by kernel_rfl) rfl #[.slice Ao22 y283.length co22,.int .i64 2] rfl (by (try simp only [List.map_toArray,List.map_cons,List.map_nil]);first|done|rfl|(simp only [List.length_drop,List.length_take];rfl)) ?_;(with_reducible refine (merkle_Path.calls k _ _ y283 2 t292 t293 _ ?side1 ?side2 A3.out).mono ?_);(case side1=>repeat (first|exact (Kd.R_reads' HO285.out).2.2|(with_reducible refine Kd.C_alloc ?_ _)|(with_reducible refine Kd.C_drewN ?_ _)|(with_reducible refine Kd.C_drew ?_)));(case side2=>exact (Kd.R_reads' HO285.out).2.1);rintro e w25 ⟨v294,rfl,ho0,hb⟩;refine ⟨_,rfl,?_⟩;have n0_:=Aside0.mk (Kd.R_elder' (by (with_reducible repeat (first|apply Kd.R_alloc|apply Kd.R_drewN|apply Kd.R_drew));exact HO285.out) (Kd.R_base ho0) hb);have n1_:=Aside0.mk (Kd.R_elder' (by (with_reducible repeat (first|apply Kd.R_alloc|apply Kd.R_drewN|apply Kd.R_drew));exact HO291.out) (Kd.R_base ho0) hb);have n2_:=Aside0.mk (Kd.R_lower (Kd.R_new' (Kd.R_new' ho0 (Kd.R_lt (by (with_reducible repeat (first|apply Kd.R_alloc|apply Kd.R_drewN|apply Kd.R_drew));exact HO285.out))) (Kd.R_lt (by (with_reducible repeat (first|apply Kd.R_alloc|apply Kd.R_drewN|apply Kd.R_drew));exact HO291.out))) (below_size (by repeat (first|(with_reducible first|exact HB.out|apply below_alloc|apply pw_below_drewN|apply below_drew1)|exact HB.out))));have n3_:=Aside0.mk (below_step (by repeat (first|(with_reducible first|exact HB.out|apply below_alloc|apply pw_below_drewN|apply below_drew1)|exact HB.out)) hb);clear HO285;clear HO291;clear HB;have HO285:=n0_;have HO291:=n1_;have HO295:=n2_;have HB:=n3_;clear n0_ n1_ n2_ n3_;(try clear hb);(try clear hb2);(try clear hk);(try clear hi);(try clear ho0))|((with_reducible refine gate_callee (f:=48) rfl ?_);refine goesL_ (some 25) rfl rfl Try.func48 (by kernel_rfl) rfl #[.string (⟨#[97]⟩:ByteArray)] rfl (by (try simp only [List.map_toArray,List.map_cons,List.map_nil]);first|done|rfl|(simp only [List.length_drop,List.length_take];rfl)) ?_;(with_reducible refine (merkle_Leaf.calls (⟨#[97]⟩:ByteArray) t296 _ A4.out).mono ?_);rintro e w26 ⟨rfl,hb⟩;refine ⟨_,rfl,?_⟩;have n0_:=Aside0.mk (Kd.R_below (by (with_reducible repeat (first|apply Kd.R_alloc|apply Kd.R_drewN|apply Kd.R_drew));exact HO285.out) hb);have n1_:=Aside0.mk (Kd.R_below (by (with_reducible repeat (first|apply Kd.R_alloc|apply Kd.R_drewN|apply Kd.R_drew));exact HO291.out) hb);have n2_:=Aside0.mk (Kd.R_below (by (with_reducible repeat (first|apply Kd.R_alloc|apply Kd.R_drewN|apply Kd.R_drew));exact HO295.out) hb);have n3_:=Aside0.mk (below_step (by repeat (first|(with_reducible first|exact HB.out|apply below_alloc|apply pw_below_drewN|apply below_drew1)|exact HB.out)) hb);clear HO285;clear HO291;clear HO295;clear HB;have HO285:=n0_;have HO291:=n1_;have HO295:=n2_;have HB:=n3_;clear n0_ n1_ n2_ n3_;(try clear hb);(try clear hb2);(try clear hk);(try clear hi))|((with_reducible refine gate_callee (f:=48) rfl ?_);refine goesL_ (some 26) rfl rfl Try.func48 (by kernel_rfl) rfl #[.string (⟨#[98]⟩:ByteArray)] rfl (by (try simp only [List.map_toArray,List.map_cons,List.map_nil]);first|done|rfl|(simp only [List.length_drop,List.length_take];rfl)) ?_;(with_reducible refine (merkle_Leaf.calls (⟨#[98]⟩:ByteArray) t297 _ A5.out).mono ?_);rintro e w27 ⟨rfl,hb⟩;refine ⟨_,rfl,?_⟩;have n0_:=Aside0.mk (Kd.R_below (by (with_reducible repeat (first|apply Kd.R_alloc|apply Kd.R_drewN|apply Kd.R_drew));exact HO285.out) hb);have n1_:=Aside0.mk (Kd.R_below (by (with_reducible repeat (first|apply Kd.R_alloc|apply Kd.R_drewN|apply Kd.R_drew));exact HO291.out) hb);have n2_:=Aside0.mk (Kd.R_below (by (with_reducible repeat (first|apply Kd.R_alloc|apply Kd.R_drewN|apply Kd.R_drew));exact HO295.out) hb);have n3_:=Aside0.mk (below_step (by repeat (first|(with_reducible first|exact HB.out|apply below_alloc|apply pw_below_drewN|apply below_drew1)|exact HB.out)) hb);clear HO285;clear HO291;clear HO295;clear HB;have HO285:=n0_;have HO291:=n1_;have HO295:=n2_;have HB:=n3_;clear n0_ n1_ n2_ n3_;(try clear hb);(try clear hb2);(try clear hk);(try clear hi))|((with_reducible refine gate_callee (f:=50) rfl ?_);refine goesL_ (some 27) rfl rfl Try.func50 (by kernel_rfl) rfl #[.string t296,.string t297] rfl (by (try simp only [List.map_toArray,List.map_cons,List.map_nil]);first|done|rfl|(simp only [List.length_drop,List.length_take];rfl)) ?_;(with_reducible refine (merkle_Knot.calls t296 t297 t298 _ A6.out).mono ?_);rintro e w28 ⟨rfl,hb⟩;refine ⟨_,rfl,?_⟩;have n0_:=Aside0.mk (Kd.R_below (by (with_reducible repeat (first|apply Kd.R_alloc|apply Kd.R_drewN|apply Kd.R_drew));exact HO285.out) hb);have n1_:=Aside0.mk (Kd.R_below (by (with_reducible repeat (first|apply Kd.R_alloc|apply Kd.R_drewN|apply Kd.R_drew));exact HO291.out) hb);have n2_:=Aside0.mk (Kd.R_below (by (with_reducible repeat (first|apply Kd.R_alloc|apply Kd.R_drewN|apply Kd.R_drew));exact HO295.out) hb);have n3_:=Aside0.mk (below_step (by repeat (first|(with_reducible first|exact HB.out|apply below_alloc|apply pw_below_drewN|apply below_drew1)|exact HB.out)) hb);clear HO285;clear HO291;clear HO295;clear HB;have HO285:=n0_;have HO291:=n1_;have HO295:=n2_;have HB:=n3_;clear n0_ n1_ n2_ n3_;(try clear hb);(try clear hb2);(try clear hk);(try clear hi)))
           have n0_:=Aside0.mk (Kd.R_drew HO285.out)
           have n1_:=Aside0.mk (Kd.R_drew HO291.out)
           have n2_:=Aside0.mk (Kd.R_drew HO295.out)
           have n3_:=Aside0.mk (below_drew1 HB.out)
           clear HO285
           clear HO291
           clear HO295
           clear HB
           have HO285:=n0_
           have HO291:=n1_
           have HO295:=n2_
           have HB:=n3_
           clear n0_ n1_ n2_ n3_
           obtain ⟨As291,cs291,es291⟩:=Kd.R_slice HO291.out
           subst es291
           have p301:0≤(0:Int):=(by omega)
           have q301:0 < (t288.length:Int):=of_decide_eq_true (by first|(with_reducible assumption)|assumption)
           obtain ⟨ad301,e301,hx301_0⟩:=Kd.at_string (Kd.R_reads' HO291.out).2.2 0 p301 q301
           cases e301
           have qi301:(0 < t288.length)=True:=eq_true (by omega)
           (try rw [show ((0:Int)).toNat=0 from rfl] at hx301_0)
           (try rw [Addr.add_zero'] at hx301_0)
           obtain ⟨As295,cs295,es295⟩:=Kd.R_slice HO295.out
           subst es295
           replace p301:=eq_true p301
           replace q301:=eq_true q301
           have p303:0≤(0:Int):=(by omega)
           have q303:0 < (t292.length:Int):=of_decide_eq_true (by first|(with_reducible assumption)|assumption)
           obtain ⟨ad303,e303,hx303_0⟩:=Kd.at_string (Kd.R_reads' HO295.out).2.2 0 p303 q303
           cases e303
           have qi303:(0 < t292.length)=True:=eq_true (by omega)
           (try rw [show ((0:Int)).toNat=0 from rfl] at hx303_0)
           (try rw [Addr.add_zero'] at hx303_0)
           replace p303:=eq_true p303
           replace q303:=eq_true q303
           refine start_ (n:=47) (S:=fun w'=>w'.cell? ad301=some (.string (rdOf ByteArray.empty t288 0))∧w'.cell? ad303=some (.string (rdOf ByteArray.empty t292 0))) (ds:=[]) #[false,false,false,false,false,false,false,false,false,false,false,false,false,false,false,false,false,false,false,false,false,false,false,false,false,false,false,false,false,false,false,false,false,false,false,false,false,false,false,false,false,false,false,false,false,false,false] (by kernel_rfl) rfl rfl ⟨hx301_0,hx303_0⟩ (fun hHeld=>?_);refine with_tabW mosaiclaw03_awakeT.tab6 mosaiclaw03_awakeT.bits6 (fun HT_ HW_=>?_)
           generalize w28.drew=w29 at HO285 HO291 HO295 HB hx301_0 hx303_0 hHeld ⊢
           refine pure_ (i:=0) (N:=some 28) (v:=?_) (a':=?_) #[true,false,false,false,false,false,false,false,false,false,false,false,false,false,false,false,false,false,false,false,false,false,false,false,false,false,false,false,false,false,false,false,false,false,false,false,false,false,false,false,false,false,false,false,false,false,false] rfl rfl (any_of HT_.out (by kernel_rfl)) (fun _ _ _ h=>h) (Or.inl ⟨by rfl,?_⟩) ?_ ?_
           rotate_left
           ·
            intro w'
            go_simp
            with_reducible rfl
           rotate_left
           ·
            simp only [Act.put,List.setIfInBounds_toArray,List.set_cons_zero,List.set_cons_succ,i64_w,i32_w]
            rfl
           refine pure_ (i:=1) (N:=some 29) (v:=?_) (a':=?_) #[true,true,false,false,false,false,false,false,false,false,false,false,false,false,false,false,false,false,false,false,false,false,false,false,false,false,false,false,false,false,false,false,false,false,false,false,false,false,false,false,false,false,false,false,false,false,false] rfl rfl (any_of HT_.out (by kernel_rfl)) (fun _ _ _ h=>h) (Or.inl ⟨by rfl,?_⟩) ?_ ?_
           rotate_left
           ·
            intro w'
            go_simp
            with_reducible rfl
           rotate_left
           ·
            simp only [Act.put,List.setIfInBounds_toArray,List.set_cons_zero,List.set_cons_succ,i64_w,i32_w]
            rfl
           refine pure_ (i:=2) (N:=some 30) (v:=?_) (a':=?_) #[true,true,true,false,false,false,false,false,false,false,false,false,false,false,false,false,false,false,false,false,false,false,false,false,false,false,false,false,false,false,false,false,false,false,false,false,false,false,false,false,false,false,false,false,false,false,false] rfl rfl (any_of HT_.out (by kernel_rfl)) (fun _ _ _ h=>h) (Or.inl ⟨by rfl,?_⟩) ?_ ?_
           rotate_left
           ·
            intro w'
            go_simp
            with_reducible rfl
           rotate_left
           ·
            simp only [Act.put,List.setIfInBounds_toArray,List.set_cons_zero,List.set_cons_succ,i64_w,i32_w]
            rfl
           refine pure_ (i:=3) (N:=some 31) (v:=?_) (a':=?_) #[true,true,true,true,false,false,false,false,false,false,false,false,false,false,false,false,false,false,false,false,false,false,false,false,false,false,false,false,false,false,false,false,false,false,false,false,false,false,false,false,false,false,false,false,false,false,false] rfl rfl (any_of HT_.out (by kernel_rfl)) (fun _ _ _ h=>h) (Or.inl ⟨by rfl,?_⟩) ?_ ?_
           rotate_left
           ·
            intro w'
            go_simp
            with_reducible rfl
           rotate_left
           ·
            simp only [Act.put,List.setIfInBounds_toArray,List.set_cons_zero,List.set_cons_succ,i64_w,i32_w]
            rfl
           refine pure_ (i:=4) (N:=some 32) (v:=?_) (a':=?_) #[true,true,true,true,true,false,false,false,false,false,false,false,false,false,false,false,false,false,false,false,false,false,false,false,false,false,false,false,false,false,false,false,false,false,false,false,false,false,false,false,false,false,false,false,false,false,false] rfl rfl (any_of HT_.out (by kernel_rfl)) (fun _ _ _ h=>h) (Or.inl ⟨by rfl,?_⟩) ?_ ?_
           rotate_left
           ·
            intro w'
            go_simp
            with_reducible rfl
           rotate_left
           ·
            simp only [Act.put,List.setIfInBounds_toArray,List.set_cons_zero,List.set_cons_succ,i64_w,i32_w]
            rfl
           refine pure_ (i:=5) (N:=some 33) (v:=?_) (a':=?_) #[true,true,true,true,true,true,false,false,false,false,false,false,false,false,false,false,false,false,false,false,false,false,false,false,false,false,false,false,false,false,false,false,false,false,false,false,false,false,false,false,false,false,false,false,false,false,false] rfl rfl (any_of HT_.out (by kernel_rfl)) (fun _ _ _ h=>h) (Or.inl ⟨by rfl,?_⟩) ?_ ?_
           rotate_left
           ·
            intro w'
            go_simp
            with_reducible rfl
           rotate_left
           ·
            simp only [Act.put,List.setIfInBounds_toArray,List.set_cons_zero,List.set_cons_succ,i64_w,i32_w]
            rfl
           refine pure_ (i:=6) (N:=some 34) (v:=?_) (a':=?_) #[true,true,true,true,true,true,true,false,false,false,false,false,false,false,false,false,false,false,false,false,false,false,false,false,false,false,false,false,false,false,false,false,false,false,false,false,false,false,false,false,false,false,false,false,false,false,false] rfl rfl (any_of HT_.out (by kernel_rfl)) (fun _ _ _ h=>h) (Or.inl ⟨by rfl,?_⟩) ?_ ?_
           rotate_left
           ·
            intro w'
            go_simp
            with_reducible rfl
           rotate_left
           ·
            simp only [Act.put,List.setIfInBounds_toArray,List.set_cons_zero,List.set_cons_succ,i64_w,i32_w]
            rfl
           refine pure_ (i:=7) (N:=some 35) (v:=?_) (a':=?_) #[true,true,true,true,true,true,true,true,false,false,false,false,false,false,false,false,false,false,false,false,false,false,false,false,false,false,false,false,false,false,false,false,false,false,false,false,false,false,false,false,false,false,false,false,false,false,false] rfl rfl (any_of HT_.out (by kernel_rfl)) (fun _ _ _ h=>h) (Or.inl ⟨by rfl,?_⟩) ?_ ?_
           rotate_left
           ·
            intro w'
            go_simp
            with_reducible rfl
           rotate_left
           ·
            simp only [Act.put,List.setIfInBounds_toArray,List.set_cons_zero,List.set_cons_succ,i64_w,i32_w]
            rfl
           refine pure_ (i:=8) (N:=some 36) (v:=?_) (a':=?_) #[true,true,true,true,true,true,true,true,true,false,false,false,false,false,false,false,false,false,false,false,false,false,false,false,false,false,false,false,false,false,false,false,false,false,false,false,false,false,false,false,false,false,false,false,false,false,false] rfl rfl (any_of HT_.out (by kernel_rfl)) (fun _ _ _ h=>h) (Or.inl ⟨by rfl,?_⟩) ?_ ?_
           rotate_left
           ·
            intro w'
            go_simp
            with_reducible rfl
           rotate_left
           ·
            simp only [Act.put,List.setIfInBounds_toArray,List.set_cons_zero,List.set_cons_succ,i64_w,i32_w]
            rfl
           refine pure_ (i:=9) (N:=some 37) (v:=?_) (a':=?_) #[true,true,true,true,true,true,true,true,true,true,false,false,false,false,false,false,false,false,false,false,false,false,false,false,false,false,false,false,false,false,false,false,false,false,false,false,false,false,false,false,false,false,false,false,false,false,false] rfl rfl (any_of HT_.out (by kernel_rfl)) (fun _ _ _ h=>h) (Or.inl ⟨by rfl,?_⟩) ?_ ?_
           rotate_left
           ·
            intro w'
            go_simp
            with_reducible rfl
           rotate_left
           ·
            simp only [Act.put,List.setIfInBounds_toArray,List.set_cons_zero,List.set_cons_succ,i64_w,i32_w]
            rfl
           refine pure_ (i:=10) (N:=some 38) (v:=?_) (a':=?_) #[true,true,true,true,true,true,true,true,true,true,true,false,false,false,false,false,false,false,false,false,false,false,false,false,false,false,false,false,false,false,false,false,false,false,false,false,false,false,false,false,false,false,false,false,false,false,false] rfl rfl (any_of HT_.out (by kernel_rfl)) (fun _ _ _ h=>h) (Or.inl ⟨by rfl,?_⟩) ?_ ?_
           rotate_left
           ·
            intro w'
            go_simp
            with_reducible rfl
           rotate_left
           ·
            simp only [Act.put,List.setIfInBounds_toArray,List.set_cons_zero,List.set_cons_succ,i64_w,i32_w]
            rfl
           refine pure_ (i:=11) (N:=some 39) (v:=?_) (a':=?_) #[true,true,true,true,true,true,true,true,true,true,true,true,false,false,false,false,false,false,false,false,false,false,false,false,false,false,false,false,false,false,false,false,false,false,false,false,false,false,false,false,false,false,false,false,false,false,false] rfl rfl (any_of HT_.out (by kernel_rfl)) (fun _ _ _ h=>h) (Or.inl ⟨by rfl,?_⟩) ?_ ?_
           rotate_left
           ·
            intro w'
            go_simp
            with_reducible rfl
           rotate_left
           ·
            simp only [Act.put,List.setIfInBounds_toArray,List.set_cons_zero,List.set_cons_succ,i64_w,i32_w]
            rfl
           refine pure_ (i:=12) (N:=some 40) (v:=?_) (a':=?_) #[true,true,true,true,true,true,true,true,true,true,true,true,true,false,false,false,false,false,false,false,false,false,false,false,false,false,false,false,false,false,false,false,false,false,false,false,false,false,false,false,false,false,false,false,false,false,false] rfl rfl (any_of HT_.out (by kernel_rfl)) (fun _ _ _ h=>h) (Or.inl ⟨by rfl,?_⟩) ?_ ?_
           rotate_left
           ·
            intro w'
            go_simp
            with_reducible rfl
           rotate_left
           ·
            simp only [Act.put,List.setIfInBounds_toArray,List.set_cons_zero,List.set_cons_succ,i64_w,i32_w]
            rfl
           refine one_ (i:=13) (N:=some 41) #[true,true,true,true,true,true,true,true,true,true,true,true,true,true,false,false,false,false,false,false,false,false,false,false,false,false,false,false,false,false,false,false,false,false,false,false,false,false,false,false,false,false,false,false,false,false,false] rfl rfl (one_of HT_.out (by kernel_rfl)) (by decide) (fun K hK=>?_)
           refine goes_ Try.func48 (by kernel_rfl) rfl #[.string (⟨#[99]⟩:ByteArray)] (by rfl) rfl rfl (by (try simp only [List.map_toArray,List.map_cons,List.map_nil]);first|done|rfl|(simp only [List.length_drop,List.length_take];rfl)) ?_
           with_reducible refine (merkle_Leaf.calls (⟨#[99]⟩:ByteArray) t299 _ A10.out).mono ?_
           rintro e w30 ⟨rfl,hb⟩
           have HS0_:=(hb.cell (World.block_lt_of_cell? _ _ (hHeld.1))).trans (hHeld.1)
           have HS1_:=(hb.cell (World.block_lt_of_cell? _ _ (hHeld.2))).trans (hHeld.2)
           refine ⟨_,rfl,?_⟩
           have n0_:=Aside0.mk (Kd.R_below (by (with_reducible repeat (first|apply Kd.R_alloc|apply Kd.R_drewN|apply Kd.R_drew));exact HO285.out) hb)
           have n1_:=Aside0.mk (Kd.R_below (by (with_reducible repeat (first|apply Kd.R_alloc|apply Kd.R_drewN|apply Kd.R_drew));exact HO291.out) hb)
           have n2_:=Aside0.mk (Kd.R_below (by (with_reducible repeat (first|apply Kd.R_alloc|apply Kd.R_drewN|apply Kd.R_drew));exact HO295.out) hb)
           have n3_:=Aside0.mk (below_step (by repeat (first|(with_reducible first|exact HB.out|apply below_alloc|apply pw_below_drewN|apply below_drew1)|exact HB.out)) hb)
           clear HO285
           clear HO291
           clear HO295
           clear HB
           have HO285:=n0_
           have HO291:=n1_
           have HO295:=n2_
           have HB:=n3_
           clear n0_ n1_ n2_ n3_
           (try clear hb)
           (try clear hb2)
           (try clear hk)
           (try clear hi)
           refine hK.out _ _ ⟨HS0_,HS1_⟩ (fun hHeld=>?_)
           clear hK K
           refine norm_ (a':=?_) ?_ ?_
           rotate_left
           ·
            show Act.put _ (some 41) _=_
            simp only [Act.put,List.setIfInBounds_toArray,List.set_cons_zero,List.set_cons_succ,i64_w,i32_w]
            rfl
           refine one_ (i:=14) (N:=some 42) #[true,true,true,true,true,true,true,true,true,true,true,true,true,true,true,false,false,false,false,false,false,false,false,false,false,false,false,false,false,false,false,false,false,false,false,false,false,false,false,false,false,false,false,false,false,false,false] rfl rfl (one_of HT_.out (by kernel_rfl)) (by decide) (fun K hK=>?_)
           refine goes_ Try.func50 (by kernel_rfl) rfl #[.string t298,.string t299] (by rfl) rfl rfl (by (try simp only [List.map_toArray,List.map_cons,List.map_nil]);first|done|rfl|(simp only [List.length_drop,List.length_take];rfl)) ?_
           with_reducible refine (merkle_Knot.calls t298 t299 t300 _ A11.out).mono ?_
           rintro e w31 ⟨rfl,hb⟩
           have HS0_:=(hb.cell (World.block_lt_of_cell? _ _ (hHeld.1))).trans (hHeld.1)
           have HS1_:=(hb.cell (World.block_lt_of_cell? _ _ (hHeld.2))).trans (hHeld.2)
           refine ⟨_,rfl,?_⟩
           have n0_:=Aside0.mk (Kd.R_below (by (with_reducible repeat (first|apply Kd.R_alloc|apply Kd.R_drewN|apply Kd.R_drew));exact HO285.out) hb)
           have n1_:=Aside0.mk (Kd.R_below (by (with_reducible repeat (first|apply Kd.R_alloc|apply Kd.R_drewN|apply Kd.R_drew));exact HO291.out) hb)
           have n2_:=Aside0.mk (Kd.R_below (by (with_reducible repeat (first|apply Kd.R_alloc|apply Kd.R_drewN|apply Kd.R_drew));exact HO295.out) hb)
           have n3_:=Aside0.mk (below_step (by repeat (first|(with_reducible first|exact HB.out|apply below_alloc|apply pw_below_drewN|apply below_drew1)|exact HB.out)) hb)
           clear HO285
           clear HO291
           clear HO295
           clear HB
           have HO285:=n0_
           have HO291:=n1_
           have HO295:=n2_
           have HB:=n3_
           clear n0_ n1_ n2_ n3_
           (try clear hb)
           (try clear hb2)
           (try clear hk)
           (try clear hi)
           obtain ⟨Ao32,co32,eo32⟩:=Kd.R_slice HO291.out
           (first|subst eo32|(injection eo32 with f1_ f2_ f3_;have f4_:=f1_.symm;have f5_:=f3_.symm;clear f1_ f2_ f3_;subst f4_;subst f5_))
           refine hK.out _ _ ⟨HS0_,HS1_⟩ (fun hHeld=>?_)
           clear hK K
           refine norm_ (a':=?_) ?_ ?_
           rotate_left
           ·
            show Act.put _ (some 42) _=_
            simp only [Act.put,List.setIfInBounds_toArray,List.set_cons_zero,List.set_cons_succ,i64_w,i32_w]
            rfl
           refine pure_ (i:=15) (N:=some 43) (v:=?_) (a':=?_) #[true,true,true,true,true,true,true,true,true,true,true,true,true,true,true,true,false,false,false,false,false,false,false,false,false,false,false,false,false,false,false,false,false,false,false,false,false,false,false,false,false,false,false,false,false,false,false] rfl rfl (any_of HT_.out (by kernel_rfl)) (fun _ _ _ h=>h) (Or.inl ⟨by rfl,?_⟩) ?_ ?_
           rotate_left
           ·
            intro w'
            go_simp
            with_reducible rfl
           rotate_left
           ·
            simp only [Act.put,List.setIfInBounds_toArray,List.set_cons_zero,List.set_cons_succ,i64_w,i32_w]
            rfl
           refine pure_ (i:=16) (N:=some 44) (v:=?_) (a':=?_) #[true,true,true,true,true,true,true,true,true,true,true,true,true,true,true,true,true,false,false,false,false,false,false,false,false,false,false,false,false,false,false,false,false,false,false,false,false,false,false,false,false,false,false,false,false,false,false] rfl rfl (any_of HT_.out (by kernel_rfl)) (fun _ _ _ h=>h) (Or.inl ⟨by rfl,?_⟩) ?_ ?_
           rotate_left
           ·
            intro w'
            go_simp
            with_reducible rfl
           rotate_left
           ·
            simp only [Act.put,List.setIfInBounds_toArray,List.set_cons_zero,List.set_cons_succ,i64_w,i32_w]
            rfl
           refine pure_ (i:=17) (N:=some 45) (v:=?_) (a':=?_) #[true,true,true,true,true,true,true,true,true,true,true,true,true,true,true,true,true,true,false,false,false,false,false,false,false,false,false,false,false,false,false,false,false,false,false,false,false,false,false,false,false,false,false,false,false,false,false] rfl rfl (any_of HT_.out (by kernel_rfl)) (fun _ _ _ h=>h) (Or.inl ⟨by rfl,?_⟩) ?_ ?_
           rotate_left
           ·
            intro w'
            go_simp
            with_reducible rfl
           rotate_left
           ·
            simp only [Act.put,List.setIfInBounds_toArray,List.set_cons_zero,List.set_cons_succ,i64_w,i32_w]
            rfl
           refine pure_ (i:=18) (N:=some 46) (v:=?_) (a':=?_) #[true,true,true,true,true,true,true,true,true,true,true,true,true,true,true,true,true,true,true,false,false,false,false,false,false,false,false,false,false,false,false,false,false,false,false,false,false,false,false,false,false,false,false,false,false,false,false] rfl rfl (any_of HT_.out (by kernel_rfl)) (fun _ _ _ h=>h) (Or.inl ⟨by rfl,?_⟩) ?_ ?_
           rotate_left
           ·
            intro w'
            go_simp
            with_reducible rfl
           rotate_left
           ·
            simp only [Act.put,List.setIfInBounds_toArray,List.set_cons_zero,List.set_cons_succ,i64_w,i32_w]
            rfl
           refine pure_ (i:=19) (N:=some 47) (v:=?_) (a':=?_) #[true,true,true,true,true,true,true,true,true,true,true,true,true,true,true,true,true,true,true,true,false,false,false,false,false,false,false,false,false,false,false,false,false,false,false,false,false,false,false,false,false,false,false,false,false,false,false] rfl rfl (any_of HT_.out (by kernel_rfl)) (fun _ _ _ h=>h) (Or.inl ⟨by rfl,?_⟩) ?_ ?_
           rotate_left
           ·
            intro w'
            go_simp
            with_reducible rfl
           rotate_left
           ·
            simp only [Act.put,List.setIfInBounds_toArray,List.set_cons_zero,List.set_cons_succ,i64_w,i32_w]
            rfl
           refine pure_ (i:=20) (N:=some 48) (v:=?_) (a':=?_) #[true,true,true,true,true,true,true,true,true,true,true,true,true,true,true,true,true,true,true,true,true,false,false,false,false,false,false,false,false,false,false,false,false,false,false,false,false,false,false,false,false,false,false,false,false,false,false] rfl rfl (any_of HT_.out (by kernel_rfl)) (fun _ _ _ h=>h) (Or.inl ⟨by rfl,?_⟩) ?_ ?_
           rotate_left
           ·
            intro w'
            go_simp
            with_reducible rfl
           rotate_left
           ·
            simp only [Act.put,List.setIfInBounds_toArray,List.set_cons_zero,List.set_cons_succ,i64_w,i32_w]
            rfl
           refine pure_ (i:=21) (N:=some 49) (v:=?_) (a':=?_) #[true,true,true,true,true,true,true,true,true,true,true,true,true,true,true,true,true,true,true,true,true,true,false,false,false,false,false,false,false,false,false,false,false,false,false,false,false,false,false,false,false,false,false,false,false,false,false] rfl rfl (any_of HT_.out (by kernel_rfl)) (fun _ _ _ h=>h) (Or.inl ⟨by rfl,?_⟩) ?_ ?_
           rotate_left
           ·
            intro w'
            go_simp
            with_reducible rfl
           rotate_left
           ·
            simp only [Act.put,List.setIfInBounds_toArray,List.set_cons_zero,List.set_cons_succ,i64_w,i32_w]
            rfl
           refine pure_ (i:=22) (N:=some 50) (v:=?_) (a':=?_) #[true,true,true,true,true,true,true,true,true,true,true,true,true,true,true,true,true,true,true,true,true,true,true,false,false,false,false,false,false,false,false,false,false,false,false,false,false,false,false,false,false,false,false,false,false,false,false] rfl rfl (any_of HT_.out (by kernel_rfl)) (fun _ _ _ h=>h) (Or.inl ⟨by rfl,?_⟩) ?_ ?_
           rotate_left
           ·
            intro w'
            go_simp
            with_reducible rfl
           rotate_left
           ·
            simp only [Act.put,List.setIfInBounds_toArray,List.set_cons_zero,List.set_cons_succ,i64_w,i32_w]
            rfl
           refine pure_ (i:=23) (N:=some 51) (v:=?_) (a':=?_) #[true,true,true,true,true,true,true,true,true,true,true,true,true,true,true,true,true,true,true,true,true,true,true,true,false,false,false,false,false,false,false,false,false,false,false,false,false,false,false,false,false,false,false,false,false,false,false] rfl rfl (any_of HT_.out (by kernel_rfl)) (fun _ _ _ h=>h) (Or.inl ⟨by rfl,?_⟩) ?_ ?_
           rotate_left
           ·
            intro w'
            go_simp
            with_reducible rfl
           rotate_left
           ·
            simp only [Act.put,List.setIfInBounds_toArray,List.set_cons_zero,List.set_cons_succ,i64_w,i32_w]
            rfl
           refine pure_ (i:=24) (N:=some 52) (v:=?_) (a':=?_) #[true,true,true,true,true,true,true,true,true,true,true,true,true,true,true,true,true,true,true,true,true,true,true,true,true,false,false,false,false,false,false,false,false,false,false,false,false,false,false,false,false,false,false,false,false,false,false] rfl rfl (any_of HT_.out (by kernel_rfl)) (fun _ _ _ h=>h) (Or.inl ⟨by rfl,?_⟩) ?_ ?_
           rotate_left
           ·
            intro w'
            go_simp
            with_reducible rfl
           rotate_left
           ·
            simp only [Act.put,List.setIfInBounds_toArray,List.set_cons_zero,List.set_cons_succ,i64_w,i32_w]
            rfl
           refine take_ (i:=25) (N:=some 53) (v:=?_) (a':=?_) #[true,true,true,true,true,true,true,true,true,true,true,true,true,true,true,true,true,true,true,true,true,true,true,true,true,true,false,false,false,false,false,false,false,false,false,false,false,false,false,false,false,false,false,false,false,false,false] rfl rfl (take_ofW HT_.out HW_.out (by kernel_rfl)) (fun _ _ _ h=>h) (Or.inl ⟨by rfl,?_⟩) hHeld ?_ ?_
           rotate_left
           ·
            rintro w' ⟨s0,s1⟩
            go_simp
            with_reducible rfl
           rotate_left
           ·
            simp only [Act.put,List.setIfInBounds_toArray,List.set_cons_zero,List.set_cons_succ,i64_w,i32_w]
            rfl
           refine one_ (i:=26) (N:=some 54) #[true,true,true,true,true,true,true,true,true,true,true,true,true,true,true,true,true,true,true,true,true,true,true,true,true,true,true,false,false,false,false,false,false,false,false,false,false,false,false,false,false,false,false,false,false,false,false] rfl rfl (one_of HT_.out (by kernel_rfl)) (by decide) (fun K hK=>?_)
           refine goes_ Try.func48 (by kernel_rfl) rfl #[.string (⟨#[98]⟩:ByteArray)] (by rfl) rfl rfl (by (try simp only [List.map_toArray,List.map_cons,List.map_nil]);first|done|rfl|(simp only [List.length_drop,List.length_take];rfl)) ?_
           with_reducible refine (merkle_Leaf.calls (⟨#[98]⟩:ByteArray) t297 _ A15.out).mono ?_
           rintro e w33 ⟨rfl,hb⟩
           have HS0_:=(hb.cell (World.block_lt_of_cell? _ _ (hHeld.1))).trans (hHeld.1)
           have HS1_:=(hb.cell (World.block_lt_of_cell? _ _ (hHeld.2))).trans (hHeld.2)
           refine ⟨_,rfl,?_⟩
           have n0_:=Aside0.mk (Kd.R_below (by (with_reducible repeat (first|apply Kd.R_alloc|apply Kd.R_drewN|apply Kd.R_drew));exact HO285.out) hb)
           have n1_:=Aside0.mk (Kd.R_below (by (with_reducible repeat (first|apply Kd.R_alloc|apply Kd.R_drewN|apply Kd.R_drew));exact HO291.out) hb)
           have n2_:=Aside0.mk (Kd.R_below (by (with_reducible repeat (first|apply Kd.R_alloc|apply Kd.R_drewN|apply Kd.R_drew));exact HO295.out) hb)
           have n3_:=Aside0.mk (below_step (by repeat (first|(with_reducible first|exact HB.out|apply below_alloc|apply pw_below_drewN|apply below_drew1)|exact HB.out)) hb)
           clear HO285
           clear HO291
           clear HO295
           clear HB
           have HO285:=n0_
           have HO291:=n1_
           have HO295:=n2_
           have HB:=n3_
           clear n0_ n1_ n2_ n3_
           (try clear hb)
           (try clear hb2)
           (try clear hk)
           (try clear hi)
           obtain ⟨Ao34,co34,eo34⟩:=Kd.R_slice HO295.out
           (first|subst eo34|(injection eo34 with f1_ f2_ f3_;have f4_:=f1_.symm;have f5_:=f3_.symm;clear f1_ f2_ f3_;subst f4_;subst f5_))
           refine hK.out _ _ ⟨HS0_,HS1_⟩ (fun hHeld=>?_)
           clear hK K
           refine norm_ (a':=?_) ?_ ?_
           rotate_left
           ·
            show Act.put _ (some 54) _=_
            simp only [Act.put,List.setIfInBounds_toArray,List.set_cons_zero,List.set_cons_succ,i64_w,i32_w]
            rfl
           refine pure_ (i:=27) (N:=some 55) (v:=?_) (a':=?_) #[true,true,true,true,true,true,true,true,true,true,true,true,true,true,true,true,true,true,true,true,true,true,true,true,true,true,true,true,false,false,false,false,false,false,false,false,false,false,false,false,false,false,false,false,false,false,false] rfl rfl (any_of HT_.out (by kernel_rfl)) (fun _ _ _ h=>h) (Or.inl ⟨by rfl,?_⟩) ?_ ?_
           rotate_left
           ·
            intro w'
            go_simp
            with_reducible rfl
           rotate_left
           ·
            simp only [Act.put,List.setIfInBounds_toArray,List.set_cons_zero,List.set_cons_succ,i64_w,i32_w]
            rfl
           refine pure_ (i:=28) (N:=some 56) (v:=?_) (a':=?_) #[true,true,true,true,true,true,true,true,true,true,true,true,true,true,true,true,true,true,true,true,true,true,true,true,true,true,true,true,true,false,false,false,false,false,false,false,false,false,false,false,false,false,false,false,false,false,false] rfl rfl (any_of HT_.out (by kernel_rfl)) (fun _ _ _ h=>h) (Or.inl ⟨by rfl,?_⟩) ?_ ?_
           rotate_left
           ·
            intro w'
            go_simp
            with_reducible rfl
           rotate_left
           ·
            simp only [Act.put,List.setIfInBounds_toArray,List.set_cons_zero,List.set_cons_succ,i64_w,i32_w]
            rfl
           refine pure_ (i:=29) (N:=some 57) (v:=?_) (a':=?_) #[true,true,true,true,true,true,true,true,true,true,true,true,true,true,true,true,true,true,true,true,true,true,true,true,true,true,true,true,true,true,false,false,false,false,false,false,false,false,false,false,false,false,false,false,false,false,false] rfl rfl (any_of HT_.out (by kernel_rfl)) (fun _ _ _ h=>h) (Or.inl ⟨by rfl,?_⟩) ?_ ?_
           rotate_left
           ·
            intro w'
            go_simp
            with_reducible rfl
           rotate_left
           ·
            simp only [Act.put,List.setIfInBounds_toArray,List.set_cons_zero,List.set_cons_succ,i64_w,i32_w]
            rfl
           refine pure_ (i:=30) (N:=some 58) (v:=?_) (a':=?_) #[true,true,true,true,true,true,true,true,true,true,true,true,true,true,true,true,true,true,true,true,true,true,true,true,true,true,true,true,true,true,true,false,false,false,false,false,false,false,false,false,false,false,false,false,false,false,false] rfl rfl (any_of HT_.out (by kernel_rfl)) (fun _ _ _ h=>h) (Or.inl ⟨by rfl,?_⟩) ?_ ?_
           rotate_left
           ·
            intro w'
            go_simp
            with_reducible rfl
           rotate_left
           ·
            simp only [Act.put,List.setIfInBounds_toArray,List.set_cons_zero,List.set_cons_succ,i64_w,i32_w]
            rfl
           refine pure_ (i:=31) (N:=some 59) (v:=?_) (a':=?_) #[true,true,true,true,true,true,true,true,true,true,true,true,true,true,true,true,true,true,true,true,true,true,true,true,true,true,true,true,true,true,true,true,false,false,false,false,false,false,false,false,false,false,false,false,false,false,false] rfl rfl (any_of HT_.out (by kernel_rfl)) (fun _ _ _ h=>h) (Or.inl ⟨by rfl,?_⟩) ?_ ?_
           rotate_left
           ·
            intro w'
            go_simp
            with_reducible rfl
           rotate_left
           ·
            simp only [Act.put,List.setIfInBounds_toArray,List.set_cons_zero,List.set_cons_succ,i64_w,i32_w]
            rfl
           refine pure_ (i:=32) (N:=some 60) (v:=?_) (a':=?_) #[true,true,true,true,true,true,true,true,true,true,true,true,true,true,true,true,true,true,true,true,true,true,true,true,true,true,true,true,true,true,true,true,true,false,false,false,false,false,false,false,false,false,false,false,false,false,false] rfl rfl (any_of HT_.out (by kernel_rfl)) (fun _ _ _ h=>h) (Or.inl ⟨by rfl,?_⟩) ?_ ?_
           rotate_left
           ·
            intro w'
            go_simp
            with_reducible rfl
           rotate_left
           ·
            simp only [Act.put,List.setIfInBounds_toArray,List.set_cons_zero,List.set_cons_succ,i64_w,i32_w]
            rfl
           refine pure_ (i:=33) (N:=some 61) (v:=?_) (a':=?_) #[true,true,true,true,true,true,true,true,true,true,true,true,true,true,true,true,true,true,true,true,true,true,true,true,true,true,true,true,true,true,true,true,true,true,false,false,false,false,false,false,false,false,false,false,false,false,false] rfl rfl (any_of HT_.out (by kernel_rfl)) (fun _ _ _ h=>h) (Or.inl ⟨by rfl,?_⟩) ?_ ?_
           rotate_left
           ·
            intro w'
            go_simp
            with_reducible rfl
           rotate_left
           ·
            simp only [Act.put,List.setIfInBounds_toArray,List.set_cons_zero,List.set_cons_succ,i64_w,i32_w]
            rfl
           refine pure_ (i:=34) (N:=some 62) (v:=?_) (a':=?_) #[true,true,true,true,true,true,true,true,true,true,true,true,true,true,true,true,true,true,true,true,true,true,true,true,true,true,true,true,true,true,true,true,true,true,true,false,false,false,false,false,false,false,false,false,false,false,false] rfl rfl (any_of HT_.out (by kernel_rfl)) (fun _ _ _ h=>h) (Or.inl ⟨by rfl,?_⟩) ?_ ?_
           rotate_left
           ·
            intro w'
            go_simp
            with_reducible rfl
           rotate_left
           ·
            simp only [Act.put,List.setIfInBounds_toArray,List.set_cons_zero,List.set_cons_succ,i64_w,i32_w]
            rfl
           refine pure_ (i:=35) (N:=some 63) (v:=?_) (a':=?_) #[true,true,true,true,true,true,true,true,true,true,true,true,true,true,true,true,true,true,true,true,true,true,true,true,true,true,true,true,true,true,true,true,true,true,true,true,false,false,false,false,false,false,false,false,false,false,false] rfl rfl (any_of HT_.out (by kernel_rfl)) (fun _ _ _ h=>h) (Or.inl ⟨by rfl,?_⟩) ?_ ?_
           rotate_left
           ·
            intro w'
            go_simp
            with_reducible rfl
           rotate_left
           ·
            simp only [Act.put,List.setIfInBounds_toArray,List.set_cons_zero,List.set_cons_succ,i64_w,i32_w]
            rfl
           refine pure_ (i:=36) (N:=some 64) (v:=?_) (a':=?_) #[true,true,true,true,true,true,true,true,true,true,true,true,true,true,true,true,true,true,true,true,true,true,true,true,true,true,true,true,true,true,true,true,true,true,true,true,true,false,false,false,false,false,false,false,false,false,false] rfl rfl (any_of HT_.out (by kernel_rfl)) (fun _ _ _ h=>h) (Or.inl ⟨by rfl,?_⟩) ?_ ?_
           rotate_left
           ·
            intro w'
            go_simp
            with_reducible rfl
           rotate_left
           ·
            simp only [Act.put,List.setIfInBounds_toArray,List.set_cons_zero,List.set_cons_succ,i64_w,i32_w]
            rfl
           refine pure_ (i:=38) (N:=some 66) (v:=?_) (a':=?_) #[true,true,true,true,true,true,true,true,true,true,true,true,true,true,true,true,true,true,true,true,true,true,true,true,true,true,true,true,true,true,true,true,true,true,true,true,true,false,true,false,false,false,false,false,false,false,false] rfl rfl (any_of HT_.out (by kernel_rfl)) (fun _ _ _ h=>h) (Or.inl ⟨by rfl,?_⟩) ?_ ?_
           rotate_left
           ·
            intro w'
            go_simp
            with_reducible rfl
           rotate_left
           ·
            simp only [Act.put,List.setIfInBounds_toArray,List.set_cons_zero,List.set_cons_succ,i64_w,i32_w]
            rfl
           refine take_ (i:=37) (N:=some 65) (v:=?_) (a':=?_) #[true,true,true,true,true,true,true,true,true,true,true,true,true,true,true,true,true,true,true,true,true,true,true,true,true,true,true,true,true,true,true,true,true,true,true,true,true,true,true,false,false,false,false,false,false,false,false] rfl rfl (take_ofW HT_.out HW_.out (by kernel_rfl)) (fun _ _ _ h=>h) (Or.inl ⟨by rfl,?_⟩) hHeld ?_ ?_
           rotate_left
           ·
            rintro w' ⟨s0,s1⟩
            go_simp
            with_reducible rfl
           rotate_left
           ·
            simp only [Act.put,List.setIfInBounds_toArray,List.set_cons_zero,List.set_cons_succ,i64_w,i32_w]
            rfl
           refine pure_ (i:=39) (N:=some 67) (v:=?_) (a':=?_) #[true,true,true,true,true,true,true,true,true,true,true,true,true,true,true,true,true,true,true,true,true,true,true,true,true,true,true,true,true,true,true,true,true,true,true,true,true,true,true,true,false,false,false,false,false,false,false] rfl rfl (any_of HT_.out (by kernel_rfl)) (fun _ _ _ h=>h) (Or.inl ⟨by rfl,?_⟩) ?_ ?_
           rotate_left
           ·
            intro w'
            go_simp
            with_reducible rfl
           rotate_left
           ·
            simp only [Act.put,List.setIfInBounds_toArray,List.set_cons_zero,List.set_cons_succ,i64_w,i32_w]
            rfl
           refine pure_ (i:=40) (N:=some 68) (v:=?_) (a':=?_) #[true,true,true,true,true,true,true,true,true,true,true,true,true,true,true,true,true,true,true,true,true,true,true,true,true,true,true,true,true,true,true,true,true,true,true,true,true,true,true,true,true,false,false,false,false,false,false] rfl rfl (any_of HT_.out (by kernel_rfl)) (fun _ _ _ h=>h) (Or.inl ⟨by rfl,?_⟩) ?_ ?_
           rotate_left
           ·
            intro w'
            go_simp
            with_reducible rfl
           rotate_left
           ·
            simp only [Act.put,List.setIfInBounds_toArray,List.set_cons_zero,List.set_cons_succ,i64_w,i32_w]
            rfl
           refine pure_ (i:=41) (N:=some 69) (v:=?_) (a':=?_) #[true,true,true,true,true,true,true,true,true,true,true,true,true,true,true,true,true,true,true,true,true,true,true,true,true,true,true,true,true,true,true,true,true,true,true,true,true,true,true,true,true,true,false,false,false,false,false] rfl rfl (any_of HT_.out (by kernel_rfl)) (fun _ _ _ h=>h) (Or.inl ⟨by rfl,?_⟩) ?_ ?_
           rotate_left
           ·
            intro w'
            go_simp
            with_reducible rfl
           rotate_left
           ·
            simp only [Act.put,List.setIfInBounds_toArray,List.set_cons_zero,List.set_cons_succ,i64_w,i32_w]
            rfl
           refine pure_ (i:=42) (N:=some 70) (v:=?_) (a':=?_) #[true,true,true,true,true,true,true,true,true,true,true,true,true,true,true,true,true,true,true,true,true,true,true,true,true,true,true,true,true,true,true,true,true,true,true,true,true,true,true,true,true,true,true,false,false,false,false] rfl rfl (any_of HT_.out (by kernel_rfl)) (fun _ _ _ h=>h) (Or.inl ⟨by rfl,?_⟩) ?_ ?_
           rotate_left
           ·
            intro w'
            go_simp
            with_reducible rfl
           rotate_left
           ·
            simp only [Act.put,List.setIfInBounds_toArray,List.set_cons_zero,List.set_cons_succ,i64_w,i32_w]
            rfl
           refine pure_ (i:=43) (N:=some 71) (v:=?_) (a':=?_) #[true,true,true,true,true,true,true,true,true,true,true,true,true,true,true,true,true,true,true,true,true,true,true,true,true,true,true,true,true,true,true,true,true,true,true,true,true,true,true,true,true,true,true,true,false,false,false] rfl rfl (any_of HT_.out (by kernel_rfl)) (fun _ _ _ h=>h) (Or.inl ⟨by rfl,?_⟩) ?_ ?_
           rotate_left
           ·
            intro w'
            go_simp
            with_reducible rfl
           rotate_left
           ·
            simp only [Act.put,List.setIfInBounds_toArray,List.set_cons_zero,List.set_cons_succ,i64_w,i32_w]
            rfl
           refine pure_ (i:=44) (N:=some 72) (v:=?_) (a':=?_) #[true,true,true,true,true,true,true,true,true,true,true,true,true,true,true,true,true,true,true,true,true,true,true,true,true,true,true,true,true,true,true,true,true,true,true,true,true,true,true,true,true,true,true,true,true,false,false] rfl rfl (any_of HT_.out (by kernel_rfl)) (fun _ _ _ h=>h) (Or.inl ⟨by rfl,?_⟩) ?_ ?_
           rotate_left
           ·
            intro w'
            go_simp
            with_reducible rfl
           rotate_left
           ·
            simp only [Act.put,List.setIfInBounds_toArray,List.set_cons_zero,List.set_cons_succ,i64_w,i32_w]
            rfl
           refine pure_ (i:=45) (N:=some 73) (v:=?_) (a':=?_) #[true,true,true,true,true,true,true,true,true,true,true,true,true,true,true,true,true,true,true,true,true,true,true,true,true,true,true,true,true,true,true,true,true,true,true,true,true,true,true,true,true,true,true,true,true,true,false] rfl rfl (any_of HT_.out (by kernel_rfl)) (fun _ _ _ h=>h) (Or.inl ⟨by rfl,?_⟩) ?_ ?_
           rotate_left
           ·
            intro w'
            go_simp
            with_reducible rfl
           rotate_left
           ·
            simp only [Act.put,List.setIfInBounds_toArray,List.set_cons_zero,List.set_cons_succ,i64_w,i32_w]
            rfl
           refine pure_ (i:=46) (N:=some 0) (v:=?_) (a':=?_) #[true,true,true,true,true,true,true,true,true,true,true,true,true,true,true,true,true,true,true,true,true,true,true,true,true,true,true,true,true,true,true,true,true,true,true,true,true,true,true,true,true,true,true,true,true,true,true] rfl rfl (any_of HT_.out (by kernel_rfl)) (fun _ _ _ h=>h) (Or.inl ⟨by rfl,?_⟩) ?_ ?_
           rotate_left
           ·
            intro w'
            go_simp
            with_reducible rfl
           rotate_left
           ·
            simp only [Act.put,List.setIfInBounds_toArray,List.set_cons_zero,List.set_cons_succ,i64_w,i32_w]
            rfl
           refine done_ (done_of HT_.out (by kernel_rfl)) ?_
           try go_wp2
           go_ret
           exact ⟨by first|rfl|(simp [errW_none,errW_some] <;> rfl)|(simp [*,errW_none,errW_some] <;> rfl),by repeat (first|(with_reducible first|exact HB.out|apply below_alloc|apply pw_below_drewN|apply below_drew1)|exact HB.out)⟩
          ·
           rw [if_neg c19] at H
           have c19b0:((rdOf ByteArray.empty t292 0).toList == t298.toList)=false:=beq_eq_false_iff_ne.mpr c19
           have c19b1:((rdOf ByteArray.empty t292 0).toList != t298.toList)=true:=bne_iff_ne.mpr c19
           exact absurd (Option.some.inj H) (by simp)
         ·
          rw [if_neg c18] at H
          exact absurd H (by simp)
        ·
         rw [if_neg c17] at H
         have c17b0:((t292.length:Int) == 1)=false:=beq_eq_false_iff_ne.mpr c17
         have c17b1:((t292.length:Int) != 1)=true:=bne_iff_ne.mpr c17
         exact absurd (Option.some.inj H) (by simp)
       ·
        rw [if_neg c16] at H
        have c16b0:((rdOf ByteArray.empty t288 0).toList == t297.toList)=false:=beq_eq_false_iff_ne.mpr c16
        have c16b1:((rdOf ByteArray.empty t288 0).toList != t297.toList)=true:=bne_iff_ne.mpr c16
        exact absurd (Option.some.inj H) (by simp)
      ·
       rw [if_neg c14] at H
       exact absurd H (by simp)
     ·
      rw [if_neg c13] at H
      have c13b0:((t288.length:Int) == 2)=false:=beq_eq_false_iff_ne.mpr c13
      have c13b1:((t288.length:Int) != 2)=true:=bne_iff_ne.mpr c13
      exact absurd (Option.some.inj H) (by simp)
    ·
     rw [if_neg c12] at H
     have c12b0:(t286.toList == t300.toList)=false:=beq_eq_false_iff_ne.mpr c12
     have c12b1:(t286.toList != t300.toList)=true:=bne_iff_ne.mpr c12
     exact absurd (Option.some.inj H) (by simp)
   ·
    rw [if_neg c9] at H
    have c9b0:(t293 == 0)=false:=beq_eq_false_iff_ne.mpr c9
    have c9b1:(t293 != 0)=true:=bne_iff_ne.mpr c9
    exact absurd (Option.some.inj H) (by simp)
  ·
   rw [if_neg c8] at H
   have c8b0:(t289 == 0)=false:=beq_eq_false_iff_ne.mpr c8
   have c8b1:(t289 != 0)=true:=bne_iff_ne.mpr c8
   exact absurd (Option.some.inj H) (by simp)
 ·
  rw [if_neg c7] at H
  have c7b0:(t287 == 0)=false:=beq_eq_false_iff_ne.mpr c7
  have c7b1:(t287 != 0)=true:=bne_iff_ne.mpr c7
  exact absurd (Option.some.inj H) (by simp)
def mosaiclaw03_awake.f (k:Nat):Option Bool:=if mosaiclaw03_awakeT.f k=some true then some true else none
theorem mosaiclaw03_awake.mono (k:Nat):LeO (mosaiclaw03_awake.f k) (mosaiclaw03_awake.f (k+1)):=by
 intro r h
 unfold mosaiclaw03_awake.f at h ⊢
 split at h
 ·
  rename_i h1
  rw [if_pos (mosaiclaw03_awakeT.mono k _ h1)]
  exact h
 ·
  exact absurd h (by simp)
theorem mosaiclaw03_awake.calls (k:Nat) (r:Bool) (w:World) (h:mosaiclaw03_awake.f k=some r) :
  Calls Try.prog 45 #[] w fun e w'=>e=.returned (.bool r)∧Below w.heap.size w w':=by
 unfold mosaiclaw03_awake.f at h
 split at h
 ·
  rename_i h1
  obtain rfl:=Option.some.inj h
  exact mosaiclaw03_awakeT.callsT k w h1
 ·
  exact absurd h (by simp)
end Go.Proofs.Ytelcaepenfjloaa.Print
/-! #### Pr54 -/
namespace Go.Proofs.Ytelcaepenfjloaa.Print
open Go.RowKit Go.Proofs.YtelcaepenfjloaaW.PrintWords Go.Proofs.YtelcaepenfjloaaW.PrintLast Go.Proofs.YtelcaepenfjloaaW.PrintMore
attribute [local go_sem] max2_int min2_int max_two min_two max_three min_three max_four min_four
set_option linter.unusedVariables false
set_option linter.unusedSimpArgs false
/-! ### mosaicref03_Same: function 54 -/
def mosaicref03_Same.l0:Nat→List ByteArray→List ByteArray→Int→Option (Bool)
 | 0,_,_,_=>none
 | k+1,x0,x1,x5=>if x5 < (x0.length:Int) then (if 0≤x5 then (if x5 < (x1.length:Int) then (if (rdOf ByteArray.empty x0 x5).toList=(rdOf ByteArray.empty x1 x5).toList then (mosaicref03_Same.l0 k x0 x1 (wrap64 (x5+1))) else (some false)) else (none)) else (none)) else (some true)
def mosaicref03_Same.f (k:Nat) (l0:List ByteArray) (l1:List ByteArray):Option (Bool):=if (l0.length:Int)=(l1.length:Int) then (mosaicref03_Same.l0 k l0 l1 0) else (some false)
theorem mosaicref03_Same.mono_l:∀ k,(∀ y0 y1 y2,LeO (mosaicref03_Same.l0 k y0 y1 y2) (mosaicref03_Same.l0 (k+1) y0 y1 y2))
 | 0=>fun _ _ _ r h=>by simp [mosaicref03_Same.l0] at h
 | k+1=>by
  have ih0:=mosaicref03_Same.mono_l k
  ·
   intro y0 y1 y2
   unfold mosaicref03_Same.l0
   repeat' first
   | (with_reducible exact ih0 _ _ _)
   | (with_reducible exact LeO.refl _)
   | (with_reducible exact LeO.none _)
   | (with_reducible refine LeO.ite ?_ ?_)
   | (with_reducible refine LeO.bind ?_ (fun _=>?_))
   | exact ih0 _ _ _
   | exact LeO.none _
   | refine LeO.ite ?_ ?_
   | refine LeO.bind ?_ (fun _=>?_)
theorem mosaicref03_Same.mono:∀ a0 a1 k,LeO (mosaicref03_Same.f k a0 a1) (mosaicref03_Same.f (k+1) a0 a1):=by
 intro a0 a1 k
 have ih0:=mosaicref03_Same.mono_l k
 unfold mosaicref03_Same.f
 repeat' first
   | (with_reducible exact ih0 _ _ _)
   | (with_reducible exact LeO.refl _)
   | (with_reducible exact LeO.none _)
   | (with_reducible refine LeO.ite ?_ ?_)
   | (with_reducible refine LeO.bind ?_ (fun _=>?_))
   | exact ih0 _ _ _
   | exact LeO.none _
   | refine LeO.ite ?_ ?_
   | refine LeO.bind ?_ (fun _=>?_)
set_option maxHeartbeats 8000000 in
set_option maxRecDepth 100000 in
theorem mosaicref03_Same.calls (k:Nat) (A0:Option Addr) (c0:Nat) (l0:List ByteArray) (A1:Option Addr) (c1:Nat) (l1:List ByteArray) (r:Bool) (w:World) (hr0:Kd.C Kd.string w A0 l0.length l0) (hc0:l0.length≤c0) (hr1:Kd.C Kd.string w A1 l1.length l1) (hc1:l1.length≤c1) (h:mosaicref03_Same.f k l0 l1=some r) :
  Calls Try.prog 54 #[.slice A0 l0.length c0,.slice A1 l1.length c1] w fun e w'=>e=.returned (.bool r)∧Drawn0 w w':=by
 have HR0:=Aside0.mk hr0
 have HC0:=Aside0.mk hc0
 clear hr0 hc0
 have HR1:=Aside0.mk hr1
 have HC1:=Aside0.mk hc1
 clear hr1 hc1
 have H:(if (l0.length:Int)=(l1.length:Int) then (mosaicref03_Same.l0 k l0 l1 0) else (some false))=some r:=h
 clear h
 by_cases c3:(l0.length:Int)=(l1.length:Int)
 ·
  rw [if_pos c3] at H
  have c3b0:((l0.length:Int) == (l1.length:Int))=true:=beq_iff_eq.mpr c3
  have c3b1:((l0.length:Int) != (l1.length:Int))=false:=bne_eq_false_iff_eq.mpr c3
  have c3b2:(l0.length == l1.length)=true:=by first|simpa using c3|(simp at c3 ⊢;omega)
  clear c3
  have H':=Aside0.mk H
  clear H
  go_enter Try.func54,Try.ntmps54
  go_wp2
  repeat (go_quiet (fail);try go_wp2)
  go_loopg [5] k (fun kq v5 w'=>∃ (x5_1:Int),v5=.int .i64 x5_1∧Aside0 (mosaicref03_Same.l0 kq l0 l1 x5_1=some r)∧Aside0 (kq≤k)∧Drawn0 w w')
  case atStart=>exact ⟨(0),(by first|rfl|(simp;done)|(simp [*];done)),H',⟨Nat.le_refl _⟩,by repeat (first|exact Drawn0.refl _|apply Drawn0.step)⟩
  case round =>
   clear H'
   try clear c1
   try clear p2
   try clear c3
   try clear c3b0
   try clear c3b1
   try clear c3b2
   obtain ⟨x5_1,rfl,HA,HK1,⟨m1,rfl⟩⟩:=hrel
   cases gk with
   | zero=>exact absurd HA.out (by simp [mosaicref03_Same.l0])
   | succ k1 =>
    have H:=HA.out
    clear HA
    simp only [mosaicref03_Same.l0] at H
    by_cases c4:x5_1 < (l0.length:Int)
    ·
     rw [if_pos c4] at H
     have c4b0:decide (x5_1 < (l0.length:Int))=true:=decide_eq_true c4
     clear c4
     by_cases c5:0≤x5_1
     ·
      rw [if_pos c5] at H
      have c5b0:decide (0≤x5_1)=true:=decide_eq_true c5
      clear c5
      by_cases c6:x5_1 < (l1.length:Int)
      ·
       rw [if_pos c6] at H
       have c6b0:decide (x5_1 < (l1.length:Int))=true:=decide_eq_true c6
       clear c6
       by_cases c7:(rdOf ByteArray.empty l0 x5_1).toList=(rdOf ByteArray.empty l1 x5_1).toList
       ·
        rw [if_pos c7] at H
        have c7b0:((rdOf ByteArray.empty l0 x5_1).toList == (rdOf ByteArray.empty l1 x5_1).toList)=true:=beq_iff_eq.mpr c7
        have c7b1:((rdOf ByteArray.empty l0 x5_1).toList != (rdOf ByteArray.empty l1 x5_1).toList)=false:=bne_eq_false_iff_eq.mpr c7
        clear c7
        have H':=Aside0.mk H
        clear H
        have p359:0≤(x5_1:Int):=of_decide_eq_true (by first|(with_reducible assumption)|assumption)
        have q359:x5_1 < (l0.length:Int):=of_decide_eq_true (by first|(with_reducible assumption)|assumption)
        obtain ⟨ad359,e359,hx359_0⟩:=Kd.at_string HR0.out x5_1 p359 q359
        cases e359
        replace p359:=eq_true p359
        replace q359:=eq_true q359
        have p360:0≤(x5_1:Int):=of_decide_eq_true (by first|(with_reducible assumption)|assumption)
        have q360:x5_1 < (l1.length:Int):=of_decide_eq_true (by first|(with_reducible assumption)|assumption)
        obtain ⟨ad360,e360,hx360_0⟩:=Kd.at_string HR1.out x5_1 p360 q360
        cases e360
        replace p360:=eq_true p360
        replace q360:=eq_true q360
        go_wp2
        repeat (go_quiet (fail);try go_wp2)
        go_roundg k1
        case measure=>have:=HK1.out;omega
        case rel=>exact ⟨(wrap64 (x5_1+1)),(by first|rfl|(simp;done)|(simp [*];done)),H',⟨by have:=HK1.out;omega⟩,by repeat (first|exact Drawn0.refl _|apply Drawn0.step)⟩
       ·
        rw [if_neg c7] at H
        have c7b0:((rdOf ByteArray.empty l0 x5_1).toList == (rdOf ByteArray.empty l1 x5_1).toList)=false:=beq_eq_false_iff_ne.mpr c7
        have c7b1:((rdOf ByteArray.empty l0 x5_1).toList != (rdOf ByteArray.empty l1 x5_1).toList)=true:=bne_iff_ne.mpr c7
        obtain rfl:=Option.some.inj H
        have p359:0≤(x5_1:Int):=of_decide_eq_true (by first|(with_reducible assumption)|assumption)
        have q359:x5_1 < (l0.length:Int):=of_decide_eq_true (by first|(with_reducible assumption)|assumption)
        obtain ⟨ad359,e359,hx359_0⟩:=Kd.at_string HR0.out x5_1 p359 q359
        cases e359
        replace p359:=eq_true p359
        replace q359:=eq_true q359
        have p360:0≤(x5_1:Int):=of_decide_eq_true (by first|(with_reducible assumption)|assumption)
        have q360:x5_1 < (l1.length:Int):=of_decide_eq_true (by first|(with_reducible assumption)|assumption)
        obtain ⟨ad360,e360,hx360_0⟩:=Kd.at_string HR1.out x5_1 p360 q360
        cases e360
        replace p360:=eq_true p360
        replace q360:=eq_true q360
        go_wp2
        repeat (go_quiet (fail);try go_wp2)
        go_ret
        exact ⟨by first|rfl|(simp;done)|(simp [*];done),by repeat (first|exact Drawn0.refl _|apply Drawn0.step)⟩
      ·
       rw [if_neg c6] at H
       exact absurd H (by simp)
     ·
      rw [if_neg c5] at H
      exact absurd H (by simp)
    ·
     rw [if_neg c4] at H
     have c4b0:decide (x5_1 < (l0.length:Int))=false:=decide_eq_false c4
     clear c4
     obtain rfl:=Option.some.inj H
     go_wp2
     repeat (go_quiet (fail);try go_wp2)
     go_ret
     exact ⟨by first|rfl|(simp;done)|(simp [*];done),by repeat (first|exact Drawn0.refl _|apply Drawn0.step)⟩
 ·
  rw [if_neg c3] at H
  have c3b0:((l0.length:Int) == (l1.length:Int))=false:=beq_eq_false_iff_ne.mpr c3
  have c3b1:((l0.length:Int) != (l1.length:Int))=true:=bne_iff_ne.mpr c3
  have c3b2:(l0.length == l1.length)=false:=by first|simpa using c3|(simp at c3 ⊢;omega)
  obtain rfl:=Option.some.inj H
  go_enter Try.func54,Try.ntmps54
  go_wp2
  repeat (go_quiet (fail);try go_wp2)
  go_ret
  exact ⟨by first|rfl|(simp;done)|(simp [*];done),by repeat (first|exact Drawn0.refl _|apply Drawn0.step)⟩
end Go.Proofs.Ytelcaepenfjloaa.Print
/-! #### MaConcat -/
/- slices.Concat of rows of texts: one behind the other, in a row of its own. -/
namespace Go.Proofs.Ytelcaepenfjloaa.Print
open Go.RowKit Go.Proofs.YtelcaepenfjloaaW.PrintWords Go.Proofs.YtelcaepenfjloaaW.PrintLast Go.Proofs.YtelcaepenfjloaaW.PrintMore
set_option linter.unusedVariables false
set_option linter.unusedSimpArgs false
set_option maxHeartbeats 1000000 in
set_option maxRecDepth 100000 in
theorem grow_nil (n:Nat) (hn:n * 16≤140737488355328) (w:World) :
  Calls Try.prog 127 #[.slice none 0 0,.int .i64 (n:Int)] w fun e w'=>∃ v_:Value,e=.returned v_∧Kd.R Kd.string 9 w' w.heap.size (fun _=>True) v_ []∧Below w.heap.size w w':=by
 have HN:=Aside0.mk hn
 have b1:(n:Int)≤9223372036854775807:=by omega
 have b0:0≤(n:Int):=by omega
 have b2:¬ (n:Int) < 0:=by omega
 clear hn
 by_cases h0:n=0
 ·
  subst h0
  rw [show ((0:Nat):Int)=0 from rfl]
  clear b0 b1 b2
  go_enter Try.func127,Try.ntmps127
  go_wp2
  refine bodyPost_ret (v:=.slice none 0 0) (by simp [results,Try.results127,go_sem]) rfl ?_
  exact ⟨_,rfl,Kd.R_nil _ _ _ _ _,Below.refl _ _⟩
 ·
  have b3:0 < (n:Int):=by omega
  go_enter Try.func127,Try.ntmps127
  go_wp2_with ((with_reducible refine gate_builtin (b:=.append) (xs:=#[.tmp 20,.tmp 21]) rfl ?_);at_builtin;refine Kd.R_append_zeros Kd.string (w0:=w) w.heap.size rfl (.tmp 20) (.tmp 21) 39 3 9 (.string ⟨#[]⟩) 16 rfl Try.underlying39 Try.underlying3 info9 rfl (by decide) (by omega) (.slice none 0 0) [] (⟨#[]⟩:ByteArray) (n:Int) (fun _=>True) rfl rfl ?z (fun _ _=>trivial) (Kd.R_nil _ _ _ _ _) b0 (Below.refl _ _) (Nat.le_refl _) ?hlen_ ?_;(case z=>rfl);(case hlen_=>have:=HN.out;simp;omega);intro v1 w1 ho hb hg hat;obtain ⟨A1,c1,e1⟩:=Kd.R_slice ho;subst e1;have HO:=Aside0.mk ho;have HB:=Aside0.mk hb;clear ho hb hg hat)
  go_ret
  exact ⟨_,rfl,Kd.R_take (m:=0) HO.out (Nat.zero_le _),HB.out⟩
def concatSum:List (List ByteArray)→Nat
 | []=>0
 | a :: l=>a.length+concatSum l
theorem concatSum_take (l:List (List ByteArray)) (i:Nat) (h:i < l.length):concatSum (l.take (i+1))=concatSum (l.take i)+(l.getD i []).length:=by
 induction l generalizing i with
 | nil=>simp at h
 | cons a l ih =>
  cases i with
  | zero=>simp [concatSum]
  | succ i =>
   rw [List.take_succ_cons,List.take_succ_cons,concatSum,concatSum,ih i (by simpa using h)]
   simp
   omega
theorem concatSum_flat (l:List (List ByteArray)):concatSum l=l.flatten.length:=by
 induction l with
 | nil=>rfl
 | cons a l ih=>simp [concatSum,ih]
theorem concatSum_le (l:List (List ByteArray)) (i:Nat):concatSum (l.take i)≤concatSum l:=by
 induction l generalizing i with
 | nil=>simp [concatSum]
 | cons a l ih =>
  cases i with
  | zero=>simp [concatSum]
  | succ i =>
   rw [List.take_succ_cons,concatSum,concatSum]
   have:=ih i
   omega
theorem flatten_take (l:List (List ByteArray)) (i:Nat) (h:i < l.length):(l.take (i+1)).flatten=(l.take i).flatten ++ l.getD i []:=by
 rw [List.take_succ_eq_append_getElem h,List.flatten_append,List.getD_eq_getElem?_getD,List.getElem?_eq_getElem h]
 simp
def slices_Concat_string_string.f (l0:List (List ByteArray)):Option (List ByteArray):=if concatSum l0≤8796093022208 then some l0.flatten else none
set_option maxHeartbeats 2000000 in
set_option maxRecDepth 100000 in
theorem slices_Concat_string_string.calls (A0:Option Addr) (c0:Nat) (l0:List (List ByteArray)) (r:List ByteArray) (w:World) (hr0:Kd.C (Kd.slice 9 Kd.string) w A0 l0.length l0) (hc0:l0.length≤c0) (h:slices_Concat_string_string.f l0=some r) :
  Calls Try.prog 121 #[.slice A0 l0.length c0] w fun e w'=>∃ v0_:Value,e=.returned (v0_)∧Kd.R Kd.string 9 w' w.heap.size (fun _=>True) v0_ r∧Below w.heap.size w w':=by
 unfold slices_Concat_string_string.f at h
 by_cases hs:concatSum l0≤8796093022208
 ·
  rw [if_pos hs] at h
  have hr:=(Option.some.inj h).symm
  have hlen:=hr0.2.1
  have HR:=Aside0.mk hr
  have HS:=Aside0.mk hs
  have HR0:=Aside0.mk hr0
  clear h hr hs hr0
  go_enter Try.func121,Try.ntmps121
  go_wp2
  go_loopg [3,5,11] l0.length (fun gg v3 _ v11 wr=>∃ i:Nat,i+gg=l0.length∧v11=.int .i64 (i:Int)∧v3=.int .i64 (concatSum (l0.take i):Int)∧Aside0 (Below w.heap.size w wr))
  case atStart=>exact ⟨0,by omega,rfl,rfl,⟨Below.refl _ _⟩⟩
  case round =>
   obtain ⟨i,hi,rfl,rfl,HB⟩:=hrel
   by_cases hlt:i < l0.length
   ·
    obtain ⟨gg,rfl⟩:∃ m,gk=m+1:=⟨gk - 1,by omega⟩
    have hltz:(i:Int) < (l0.length:Int):=by omega
    obtain ⟨ad,cs,e,hcl,hK,hcell⟩:=Kd.C_get (Kd.C_below HR0.out HB.out) [] (i:Int) (by omega) hltz
    cases e
    obtain ⟨A2,c2,h2,hle2,hC2⟩:=hK
    subst h2
    have hx:wr.cell? (ad.add i)=some (.slice A2 (l0.getD i []).length c2):=by
     have:=hcell 0 _ rfl
     rw [show (Kd.slice 9 Kd.string).sz=1 from rfl] at this
     simpa using this
    clear hcell hcl
    have hst:=concatSum_take l0 i hlt
    have hle:=concatSum_le l0 (i+1)
    have hsz:=HS.out
    generalize l0.getD i []=x at hx hC2 hle2 hst
    have b1:0≤(concatSum (l0.take i):Int):=by omega
    have b2:(concatSum (l0.take i):Int)+(x.length:Int)≤8796093022208:=by omega
    have b3:0≤(concatSum (l0.take i):Int)+(x.length:Int):=by omega
    have HST:=Aside0.mk hst
    clear hst hle hsz
    generalize hcu:concatSum (l0.take i)=cu at b1 b2 b3 HST
    clear hcu
    have b4:¬ (cu:Int)+(x.length:Int) < 0:=by omega
    go_wp2
    go_roundg gg
    case measure=>omega
    case rel=>exact ⟨i+1,by omega,by go_num,by rw [HST.out];simp,HB⟩
   ·
    have hltz:¬ (i:Int) < (l0.length:Int):=by omega
    have hall:l0.take i=l0:=List.take_of_length_le (by omega)
    rw [hall]
    clear hall
    have hsz:=HS.out
    go_wp2_with (go_at_call 127;refine (grow_nil (concatSum l0) (by omega) _).mono ?_;rintro e w1 ⟨v1,rfl,ho,hb⟩;have HO:=Aside0.mk (Kd.R_lower ho HB.out.size);have HB1:=Aside0.mk (below_then HB.out HB.out.size hb);clear ho hb)
    go_loopg [6,8,27] l0.length (fun gg v6 _ v27 wr=>∃ i:Nat,i+gg=l0.length∧v27=.int .i64 (i:Int)∧Aside0 (Kd.R Kd.string 9 wr w.heap.size (fun _=>True) v6 (l0.take i).flatten)∧Aside0 (Below w.heap.size w wr))
    case atStart=>exact ⟨0,by omega,rfl,HO,HB1⟩
    case round =>
     clear HO HB1 hlt hltz
     obtain ⟨i,hi,rfl,HO,HB⟩:=hrel
     by_cases hlt:i < l0.length
     ·
      obtain ⟨gg,rfl⟩:∃ m,gk=m+1:=⟨gk - 1,by omega⟩
      have hltz:(i:Int) < (l0.length:Int):=by omega
      obtain ⟨ad,cs,e,hcl,hK,hcell⟩:=Kd.C_get (Kd.C_below HR0.out HB.out) [] (i:Int) (by omega) hltz
      cases e
      obtain ⟨A2,c2,h2,hle2,hC2⟩:=hK
      subst h2
      rw [Int.toNat_natCast] at hC2 hle2
      have hx:wr.cell? (ad.add i)=some (.slice A2 (l0.getD i []).length c2):=by
       have:=hcell 0 _ rfl
       rw [show (Kd.slice 9 Kd.string).sz=1 from rfl] at this
       simpa using this
      clear hcell hcl
      have hst:=concatSum_take l0 i hlt
      have hle:=concatSum_le l0 (i+1)
      have hfl:=flatten_take l0 i hlt
      have hcf:=concatSum_flat (l0.take i)
      have HC2:=Aside0.mk hC2
      generalize l0.getD i []=x at hx HC2 hle2 hst hfl
      clear hC2
      have HLm:Aside0 (((l0.take i).flatten.length+x.length) * 16≤140737488355328):=⟨by omega⟩
      have HFL:=Aside0.mk hfl
      clear hst hle hfl hcf hsz
      generalize (l0.take i).flatten=acc at HO HLm HFL
      obtain ⟨Ao,co,eo⟩:=Kd.R_slice HO.out
      subst eo
      go_wp2_with ((with_reducible refine gate_builtin (b:=.append) (xs:=#[.tmp 31,.tmp 32]) rfl ?_);at_builtin;refine Kd.R_append_rows Kd.string (w0:=w) w.heap.size rfl (.tmp 31) (.tmp 32) 39 9 (.string ⟨#[]⟩) 16 rfl Try.underlying39 info9 rfl (by decide) (by omega) _ acc x A2 x.length c2 (fun _=>True) (fun _=>False) rfl rfl HO.out HC2.out (fun _ _ h=>h) (fun _ h=>h.elim) (fun _ _=>trivial) HB.out HB.out.size HLm.out ?_;intro v2 w2 ho2 hb2 hg2 hat2;have n1_:=Aside0.mk ho2;have n2_:=Aside0.mk hb2;clear HO HB;have HO:=n1_;have HB:=n2_;clear n1_ n2_ ho2 hb2 hg2 hat2)
      go_roundg gg
      case measure=>omega
      case rel=>exact ⟨i+1,by omega,by go_num,⟨by rw [HFL.out];exact HO.out⟩,HB⟩
     ·
      have hltz:¬ (i:Int) < (l0.length:Int):=by omega
      have hall:l0.take i=l0:=List.take_of_length_le (by omega)
      rw [hall,← HR.out] at HO
      clear hall
      go_wp2
      go_ret
      exact ⟨_,rfl,HO.out,HB.out⟩
 ·
  rw [if_neg hs] at h
  exact absurd h (by simp)
end Go.Proofs.Ytelcaepenfjloaa.Print
/-! #### Pr107 -/
namespace Go.Proofs.Ytelcaepenfjloaa.Print
open Go.RowKit Go.Proofs.YtelcaepenfjloaaW.PrintWords Go.Proofs.YtelcaepenfjloaaW.PrintLast Go.Proofs.YtelcaepenfjloaaW.PrintMore
attribute [local go_sem] max2_int min2_int max_two min_two max_three min_three max_four min_four
set_option linter.unusedVariables false
set_option linter.unusedSimpArgs false
/-! ### merkle_texts: function 107 -/
mutual
def merkle_texts.l0:Nat→List ByteArray→Int→Option (List ByteArray×ByteArray)
 | 0,_,_=>none
 | k+1,x0,x4=>if (wrap64 (2 * x4)) < (x0.length:Int) then (merkle_texts.l0 k x0 (wrap64 (x4 * 2))) else (if 0≤x4 then (if x4≤(x0.length:Int) then ((merkle_texts.f k (x0.take (x4:Int).toNat)).bind fun bt518=>((merkle_texts.f k (x0.drop (x4:Int).toNat)).bind fun bt523=>((merkle_knot.f bt518.2 bt523.2).bind fun t527=>((slices_Concat_string_string.f (([bt518.1,bt523.1]:List (List ByteArray)))).bind fun t531=>(if t531.length < 8796093022208 then ((sha_Sum.f t527).bind fun t537=>(some ((t531 ++ [t527]),t537))) else (none)))))) else (none)) else (none))
def merkle_texts.f:Nat→List ByteArray→Option (List ByteArray×ByteArray)
 | 0,_=>none
 | k+1,l0=>if (l0.length:Int)=1 then (if 0 < (l0.length:Int) then (if 1+(rdOf ByteArray.empty l0 0).size≤9223372036854775807 then ((merkle_Leaf.f (rdOf ByteArray.empty l0 0)).bind fun t516=>(some ((([(⟨#[0]⟩:ByteArray) ++ (rdOf ByteArray.empty l0 0)]:List ByteArray)),t516))) else (none)) else (none)) else (merkle_texts.l0 k l0 1)
end
theorem merkle_texts.mono_l:∀ k,(∀ y0,LeO (merkle_texts.f k y0) (merkle_texts.f (k+1) y0))∧(∀ y0 y1,LeO (merkle_texts.l0 k y0 y1) (merkle_texts.l0 (k+1) y0 y1))
 | 0=>⟨fun _ r h=>by simp [merkle_texts.f] at h,fun _ _ r h=>by simp [merkle_texts.l0] at h⟩
 | k+1=>by
  obtain ⟨ih0,ih1⟩:=merkle_texts.mono_l k
  refine ⟨?_,?_⟩
  ·
   intro y0
   unfold merkle_texts.f
   repeat' first
   | (with_reducible exact ih0 _)
   | (with_reducible exact ih1 _ _)
   | (with_reducible exact LeO.refl _)
   | (with_reducible exact LeO.none _)
   | (with_reducible refine LeO.ite ?_ ?_)
   | (with_reducible refine LeO.bind ?_ (fun _=>?_))
   | exact ih0 _
   | exact ih1 _ _
   | exact LeO.none _
   | refine LeO.ite ?_ ?_
   | refine LeO.bind ?_ (fun _=>?_)
  ·
   intro y0 y1
   unfold merkle_texts.l0
   repeat' first
   | (with_reducible exact ih0 _)
   | (with_reducible exact ih1 _ _)
   | (with_reducible exact LeO.refl _)
   | (with_reducible exact LeO.none _)
   | (with_reducible refine LeO.ite ?_ ?_)
   | (with_reducible refine LeO.bind ?_ (fun _=>?_))
   | exact ih0 _
   | exact ih1 _ _
   | exact LeO.none _
   | refine LeO.ite ?_ ?_
   | refine LeO.bind ?_ (fun _=>?_)
theorem merkle_texts.mono:∀ a0 k,LeO (merkle_texts.f k a0) (merkle_texts.f (k+1) a0):=by
 intro a0 k
 obtain ⟨ih0,ih1⟩:=merkle_texts.mono_l k
 exact ih0 a0
def merkle_texts.T2:Bool×List (List Nat×List Nat):=(true,[([],[]),([0],[0]),([1],[1]),([2],[2]),([3],[3]),([],[]),([5],[5]),([6],[6]),([7],[7]),([4,8,0,1,2,3,4],[4]),([8,9,0,1,2,3,4,5,6,7,8,9],[8])])
def merkle_texts.B2:List Nat:=[0,1,3,7,15,0,32,96,224,511,1023]
theorem merkle_texts.tab2:rtab .any (opsOf Try.f107 2)=merkle_texts.T2:=by kernel_rfl
theorem merkle_texts.bits2:waitsOk merkle_texts.T2.2 merkle_texts.B2=true:=by kernel_rfl
set_option maxHeartbeats 8000000 in
set_option maxRecDepth 100000 in
theorem merkle_texts.calls (k:Nat):∀ (A0:Option Addr) (c0:Nat) (l0:List ByteArray) (r1:List ByteArray) (r2:ByteArray) (w:World) (hr0:Kd.C Kd.string w A0 l0.length l0) (hc0:l0.length≤c0) (h:merkle_texts.f k l0=some (r1,r2)),
  Calls Try.prog 107 #[.slice A0 l0.length c0] w fun e w'=>∃ v0_:Value,e=.returned (.tuple #[v0_,.string r2])∧Kd.R Kd.string 9 w' w.heap.size (fun _=>True) v0_ r1∧Below w.heap.size w w':=by
 induction k using Nat.strongRecOn with
 | _ k ih =>
 intro A0 c0 l0 r1 r2 w hr0 hc0 h
 cases k with
 | zero=>exact absurd h (by simp [merkle_texts.f])
 | succ k =>
 simp only [merkle_texts.f] at h
 have HR0:=Aside0.mk hr0
 have HC0:=Aside0.mk hc0
 clear hr0 hc0
 have HB:=Aside0.mk (Below.refl w.heap.size w)
 have H:(if (l0.length:Int)=1 then (if 0 < (l0.length:Int) then (if 1+(rdOf ByteArray.empty l0 0).size≤9223372036854775807 then ((merkle_Leaf.f (rdOf ByteArray.empty l0 0)).bind fun t516=>(some ((([(⟨#[0]⟩:ByteArray) ++ (rdOf ByteArray.empty l0 0)]:List ByteArray)),t516))) else (none)) else (none)) else (merkle_texts.l0 k l0 1))=some (r1,r2):=h
 clear h
 by_cases c2:(l0.length:Int)=1
 ·
  rw [if_pos c2] at H
  have c2b0:((l0.length:Int) == 1)=true:=beq_iff_eq.mpr c2
  have c2b1:((l0.length:Int) != 1)=false:=bne_eq_false_iff_eq.mpr c2
  clear c2
  by_cases c3:0 < (l0.length:Int)
  ·
   rw [if_pos c3] at H
   have c3b0:decide (0 < (l0.length:Int))=true:=decide_eq_true c3
   have c3b1:decide (0 < l0.length)=true:=decide_eq_true (by omega)
   clear c3
   by_cases c4:1+(rdOf ByteArray.empty l0 0).size≤9223372036854775807
   ·
    rw [if_pos c4] at H
    have c4b0:=eq_true c4
    have c4b1:decide (1+(rdOf ByteArray.empty l0 0).size≤9223372036854775807)=true:=decide_eq_true c4
    try have c4b2:(9223372036854775807 < 1+(rdOf ByteArray.empty l0 0).size)=False:=eq_false (Nat.not_lt.2 c4)
    obtain ⟨y512,hy512⟩:∃ y_:List ByteArray,y_=(([(⟨#[0]⟩:ByteArray) ++ (rdOf ByteArray.empty l0 0)]:List ByteArray)):=⟨_,rfl⟩
    replace H:((merkle_Leaf.f (rdOf ByteArray.empty l0 0)).bind fun t516=>(some (y512,t516)))=some (r1,r2):=by first|(rw [hy512];with_reducible exact H)|(have H2_:=(Option.bind_some _ _).symm.trans H;rw [hy512];with_reducible exact H2_)|(have H2_:=(Option.bind_some _ _).symm.trans H;with_reducible exact H2_)|with_reducible exact H|(rw [hy512];exact H)|exact H
    have Ny512:=Aside0.mk hy512
    clear hy512
    replace H:=Option.bind_eq_some_iff.mp H
    obtain ⟨t516,A50,H⟩:=H
    replace H:(some (y512,t516))=some (r1,r2):=H
    have A5:=Aside0.mk A50
    clear A50
    simp only [Option.some.injEq,Prod.mk.injEq] at H
    obtain ⟨rfl,rfl⟩:=H
    go_enter Try.func107,Try.ntmps107
    try go_wp2
    have n0_:=Aside0.mk (below_drew1 HB.out)
    clear HB
    have HB:=n0_
    clear n0_
    have p511:0≤(0:Int):=(by omega)
    have q511:0 < (l0.length:Int):=of_decide_eq_true (by first|(with_reducible assumption)|assumption)
    obtain ⟨ad511,e511,hx511_0⟩:=Kd.at_string HR0.out 0 p511 q511
    have hw511_0:=hx511_0
    (try rw [show ((0:Int)).toNat=0 from rfl] at hw511_0)
    (try rw [show 0 * 1=0 from rfl] at hw511_0)
    (try rw [Addr.add_zero'] at hw511_0)
    cases e511
    have qi511:(0 < l0.length)=True:=eq_true (by omega)
    (try rw [show ((0:Int)).toNat=0 from rfl] at hx511_0)
    (try rw [Addr.add_zero'] at hx511_0)
    replace hx511_0:=(HB.out.cell (World.block_lt_of_cell? w _ hx511_0)).trans hx511_0
    replace p511:=eq_true p511
    replace q511:=eq_true q511
    have p515:0≤(0:Int):=(by omega)
    have q515:0 < (l0.length:Int):=of_decide_eq_true (by first|(with_reducible assumption)|assumption)
    obtain ⟨ad515,e515,hx515_0⟩:=Kd.at_string HR0.out 0 p515 q515
    have hw515_0:=hx515_0
    (try rw [show ((0:Int)).toNat=0 from rfl] at hw515_0)
    (try rw [show 0 * 1=0 from rfl] at hw515_0)
    (try rw [Addr.add_zero'] at hw515_0)
    obtain rfl:ad511=ad515:=(by injection e515)
    have qi515:(0 < l0.length)=True:=eq_true (by omega)
    (try rw [show ((0:Int)).toNat=0 from rfl] at hx515_0)
    (try rw [Addr.add_zero'] at hx515_0)
    replace hx515_0:=(HB.out.cell (World.block_lt_of_cell? w _ hx515_0)).trans hx515_0
    replace p515:=eq_true p515
    replace q515:=eq_true q515
    refine start_ (n:=11) (S:=fun w'=>True) (ds:=[]) #[false,false,false,false,false,false,false,false,false,false,false] (by kernel_rfl) rfl rfl trivial (fun hHeld=>?_);refine with_tabW merkle_texts.tab2 merkle_texts.bits2 (fun HT_ HW_=>?_)
    generalize w.drew=w6 at HB hx511_0 hx515_0 hHeld ⊢
    refine pure_ (i:=0) (N:=some 13) (v:=?_) (a':=?_) #[true,false,false,false,false,false,false,false,false,false,false] rfl rfl (any_of HT_.out (by kernel_rfl)) (fun _ _ _ h=>h) (Or.inl ⟨by rfl,?_⟩) ?_ ?_
    rotate_left
    ·
     intro w'
     go_simp
     with_reducible rfl
    rotate_left
    ·
     simp only [Act.put,List.setIfInBounds_toArray,List.set_cons_zero,List.set_cons_succ,i64_w,i32_w]
     rfl
    refine pure_ (i:=5) (N:=some 18) (v:=?_) (a':=?_) #[true,false,false,false,false,true,false,false,false,false,false] rfl rfl (any_of HT_.out (by kernel_rfl)) (fun _ _ _ h=>h) (Or.inl ⟨by rfl,?_⟩) ?_ ?_
    rotate_left
    ·
     intro w'
     go_simp
     with_reducible rfl
    rotate_left
    ·
     simp only [Act.put,List.setIfInBounds_toArray,List.set_cons_zero,List.set_cons_succ,i64_w,i32_w]
     rfl
    refine inv_at [1,2,3,4,6,7,8,9,10] (fun a0_ b a w'=>∃ (v513:Value) (m9_:Value),a=putSel a0_ b [(1,14,.pointer (some ad511)),(2,15,.string (rdOf ByteArray.empty l0 0)),(3,16,.string ((⟨#[0]⟩:ByteArray) ++ (rdOf ByteArray.empty l0 0))),(4,17,v513),(6,19,.pointer (some ad511)),(7,20,.string (rdOf ByteArray.empty l0 0)),(8,21,.string t516),(9,2,m9_),(10,3,.string t516)]∧(Below w.heap.size w w')∧(b 4=true→Kd.R Kd.string 9 w' w.heap.size (fun _=>True) v513 y512)∧(b 9=true→(m9_:Value)=v513)) HT_.out HW_.out (by kernel_rfl) (by kernel_rfl) ?_ ?_ ?_
    ·
     exact ⟨.bool false,.bool false,by simp only [putSel,Bool.false_eq_true,if_false],HB.out,fun h_=>absurd h_ (by decide),fun h_=>absurd h_ (by decide)⟩
    ·
     skip
     clear HB
     refine steps_cons ?_ ?_
     ·
      rintro b a w' ⟨v513,m9_,ha,Q_HB,Q_HO514,Q_X9_⟩ hb_ hon hoff
      refine ⟨_,rfl,fun K hK=>?_⟩
      have e13:a.tmps[13]?=some (.slice (some ad511) l0.length c0):=by rw [ha];exact (putSel_off rfl).trans rfl
      replace ha:=Aside0.mk ha
      have HB:=Aside0.mk Q_HB
      have hs0_:w'.cell? ad511=some (.string (rdOf ByteArray.empty l0 0)):=((HB.out.cell (World.block_lt_of_cell? w _ hw511_0)).trans hw511_0)
      refine value_ (w1:=w') (v:=.pointer (some ad511)) (by rfl) rfl ?_ ?_
      ·
       go_simp
       (try simp only [i64_w])
       try rfl
      refine hK.out _ _ ⟨v513,m9_,(by rw [ha.out];exact putSel_upk 0 hb_ rfl rfl rfl),Q_HB,fun h0_=>absurd ((hoff 4 (by kernel_rfl)).symm.trans h0_) (by decide),fun h0_=>absurd ((hoff 9 (by kernel_rfl)).symm.trans h0_) (by decide)⟩
     refine steps_cons ?_ ?_
     ·
      rintro b a w' ⟨v513,m9_,ha,Q_HB,Q_HO514,Q_X9_⟩ hb_ hon hoff
      refine ⟨_,rfl,fun K hK=>?_⟩
      have e14:a.tmps[14]?=some (.pointer (some ad511)):=by rw [ha];exact putSel_on (e:=(1,14,.pointer (some ad511))) 0 rfl rfl (hon 1 (by kernel_rfl)) rfl
      replace ha:=Aside0.mk ha
      have HB:=Aside0.mk Q_HB
      have hs0_:w'.cell? ad511=some (.string (rdOf ByteArray.empty l0 0)):=((HB.out.cell (World.block_lt_of_cell? w _ hw511_0)).trans hw511_0)
      refine value_ (w1:=w') (v:=.string (rdOf ByteArray.empty l0 0)) (by rfl) rfl ?_ ?_
      ·
       go_simp
       (try simp only [i64_w])
       try rfl
      refine hK.out _ _ ⟨v513,m9_,(by rw [ha.out];exact putSel_upk 1 hb_ rfl rfl rfl),Q_HB,fun h0_=>absurd ((hoff 4 (by kernel_rfl)).symm.trans h0_) (by decide),fun h0_=>absurd ((hoff 9 (by kernel_rfl)).symm.trans h0_) (by decide)⟩
     refine steps_cons ?_ ?_
     ·
      rintro b a w' ⟨v513,m9_,ha,Q_HB,Q_HO514,Q_X9_⟩ hb_ hon hoff
      refine ⟨_,rfl,fun K hK=>?_⟩
      have e15:a.tmps[15]?=some (.string (rdOf ByteArray.empty l0 0)):=by rw [ha];exact putSel_on (e:=(2,15,.string (rdOf ByteArray.empty l0 0))) 1 rfl rfl (hon 2 (by kernel_rfl)) rfl
      replace ha:=Aside0.mk ha
      have HB:=Aside0.mk Q_HB
      refine value_ (w1:=w') (v:=.string ((⟨#[0]⟩:ByteArray) ++ (rdOf ByteArray.empty l0 0))) (by rfl) rfl ?_ ?_
      ·
       go_simp
       (try simp only [i64_w])
       try rfl
      refine hK.out _ _ ⟨v513,m9_,(by rw [ha.out];exact putSel_upk 2 hb_ rfl rfl rfl),Q_HB,fun h0_=>absurd ((hoff 4 (by kernel_rfl)).symm.trans h0_) (by decide),fun h0_=>absurd ((hoff 9 (by kernel_rfl)).symm.trans h0_) (by decide)⟩
     refine steps_cons ?_ ?_
     ·
      rintro b a w' ⟨v513,m9_,ha,Q_HB,Q_HO514,Q_X9_⟩ hb_ hon hoff
      refine ⟨_,rfl,fun K hK=>?_⟩
      have e16:a.tmps[16]?=some (.string ((⟨#[0]⟩:ByteArray) ++ (rdOf ByteArray.empty l0 0))):=by rw [ha];exact putSel_on (e:=(3,16,.string ((⟨#[0]⟩:ByteArray) ++ (rdOf ByteArray.empty l0 0)))) 2 rfl rfl (hon 3 (by kernel_rfl)) rfl
      replace ha:=Aside0.mk ha
      have HB:=Aside0.mk Q_HB
      refine Kd.R_lit_step Kd.string _ 9 ?hg (N:=17) ?hd (xs:=([(⟨#[0]⟩:ByteArray) ++ (rdOf ByteArray.empty l0 0)]:List ByteArray)) (inner:=[.string ((⟨#[0]⟩:ByteArray) ++ (rdOf ByteArray.empty l0 0))]) (ok:=fun _=>True) (okp:=fun _=>True) ?hr ?hp (fun _ hk=>hk) trivial (Below.refl _ _) (Nat.le_refl _) (by simp) ?_;(case hd=>rfl);(case hg=>rfl);(case hr=>first|(go_simp;done)|(go_simp;rfl));(case hp=>exact (Reps.one (show Kd.M Kd.string _ _ _ ((⟨#[0]⟩:ByteArray) ++ (rdOf ByteArray.empty l0 0)) [.string ((⟨#[0]⟩:ByteArray) ++ (rdOf ByteArray.empty l0 0))] from rfl) (Reps.none _ _)))
      intro v513 w7 ho8 hb hg_ hnew_
      clear hg_ hnew_
      (first|rw [← Ny512.out] at ho8|(simp only [Int.reduceToNat] at ho8;rw [← Ny512.out] at ho8))
      have n0_:=Aside0.mk (Kd.R_lower ho8 (below_size (by repeat (first|(with_reducible first|exact HB.out|apply below_alloc|apply pw_below_drewN|apply below_drew1)|exact HB.out))))
      have n1_:=Aside0.mk (below_step (by repeat (first|(with_reducible first|exact HB.out|apply below_alloc|apply pw_below_drewN|apply below_drew1)|exact HB.out)) hb)
      clear HB
      have HO514:=n0_
      have HB:=n1_
      clear n0_ n1_
      clear hb ho8
      refine hK.out _ _ ⟨v513,m9_,(by rw [ha.out];exact putSel_upk 3 hb_ rfl rfl rfl),(by repeat (first|(with_reducible first|exact HB.out|apply below_alloc|apply pw_below_drewN|apply below_drew1)|exact HB.out)),fun _=>(by (with_reducible repeat (first|apply Kd.R_alloc|apply Kd.R_drewN|apply Kd.R_drew));exact HO514.out),fun h0_=>absurd ((hoff 9 (by kernel_rfl)).symm.trans h0_) (by decide)⟩
     refine steps_cons ?_ ?_
     ·
      rintro b a w' ⟨v513,m9_,ha,Q_HB,Q_HO514,Q_X9_⟩ hb_ hon hoff
      refine ⟨_,rfl,fun K hK=>?_⟩
      have e18:a.tmps[18]?=some (.slice (some ad511) l0.length c0):=by rw [ha];exact (putSel_off rfl).trans rfl
      replace ha:=Aside0.mk ha
      have HB:=Aside0.mk Q_HB
      have hs1_:w'.cell? ad511=some (.string (rdOf ByteArray.empty l0 0)):=((HB.out.cell (World.block_lt_of_cell? w _ hw515_0)).trans hw515_0)
      refine value_ (w1:=w') (v:=.pointer (some ad511)) (by rfl) rfl ?_ ?_
      ·
       go_simp
       (try simp only [i64_w])
       try rfl
      refine hK.out _ _ ⟨v513,m9_,(by rw [ha.out];exact putSel_upk 4 hb_ rfl rfl rfl),Q_HB,Q_HO514,fun h0_=>absurd ((hoff 9 (by kernel_rfl)).symm.trans h0_) (by decide)⟩
     refine steps_cons ?_ ?_
     ·
      rintro b a w' ⟨v513,m9_,ha,Q_HB,Q_HO514,Q_X9_⟩ hb_ hon hoff
      refine ⟨_,rfl,fun K hK=>?_⟩
      have e19:a.tmps[19]?=some (.pointer (some ad511)):=by rw [ha];exact putSel_on (e:=(6,19,.pointer (some ad511))) 4 rfl rfl (hon 6 (by kernel_rfl)) rfl
      replace ha:=Aside0.mk ha
      have HB:=Aside0.mk Q_HB
      have hs1_:w'.cell? ad511=some (.string (rdOf ByteArray.empty l0 0)):=((HB.out.cell (World.block_lt_of_cell? w _ hw515_0)).trans hw515_0)
      refine value_ (w1:=w') (v:=.string (rdOf ByteArray.empty l0 0)) (by rfl) rfl ?_ ?_
      ·
       go_simp
       (try simp only [i64_w])
       try rfl
      refine hK.out _ _ ⟨v513,m9_,(by rw [ha.out];exact putSel_upk 5 hb_ rfl rfl rfl),Q_HB,Q_HO514,fun h0_=>absurd ((hoff 9 (by kernel_rfl)).symm.trans h0_) (by decide)⟩
     refine steps_cons ?_ ?_
     ·
      rintro b a w' ⟨v513,m9_,ha,Q_HB,Q_HO514,Q_X9_⟩ hb_ hon hoff
      refine ⟨_,rfl,fun K hK=>?_⟩
      have e20:a.tmps[20]?=some (.string (rdOf ByteArray.empty l0 0)):=by rw [ha];exact putSel_on (e:=(7,20,.string (rdOf ByteArray.empty l0 0))) 5 rfl rfl (hon 7 (by kernel_rfl)) rfl
      replace ha:=Aside0.mk ha
      have HB:=Aside0.mk Q_HB
      refine goes_ Try.func48 (by kernel_rfl) rfl #[.string (rdOf ByteArray.empty l0 0)] (by rfl) rfl rfl (by first|(simp only [List.map_toArray,List.map_cons,List.map_nil,Act.eval,Array.getD_eq_getD_getElem?,Option.getD_some,e20];done)|(simp only [List.map_toArray,List.map_cons,List.map_nil,Act.eval,Array.getD_eq_getD_getElem?,Option.getD_some,e20];rfl)) ?_
      with_reducible refine (merkle_Leaf.calls (rdOf ByteArray.empty l0 0) t516 _ A5.out).mono ?_
      rintro e w7 ⟨rfl,hb⟩
      refine ⟨_,rfl,?_⟩
      have n0_:=Aside0.mk (below_step (by repeat (first|(with_reducible first|exact HB.out|apply below_alloc|apply pw_below_drewN|apply below_drew1)|exact HB.out)) hb)
      have z_HO514:=fun (h0_:b 4=true)=>(show Kd.R Kd.string 9 w7 w.heap.size (fun _=>True) v513 y512 from by first|exact (Kd.R_below (by (with_reducible repeat (first|apply Kd.R_alloc|apply Kd.R_drewN|apply Kd.R_drew));exact (Q_HO514 h0_)) hb)|exact Kd.R_mono (Kd.R_below (by (with_reducible repeat (first|apply Kd.R_alloc|apply Kd.R_drewN|apply Kd.R_drew));exact (Q_HO514 h0_)) hb) (fun _ h_=>by first|trivial|exact h_|exact h_.1))
      clear HB
      have HB:=n0_
      clear n0_
      (try clear hb)
      (try clear hb2)
      (try clear hk)
      (try clear hi)
      refine hK.out _ _ ⟨v513,m9_,(by rw [ha.out];exact putSel_upk 6 hb_ rfl rfl rfl),(by repeat (first|(with_reducible first|exact HB.out|apply below_alloc|apply pw_below_drewN|apply below_drew1)|exact HB.out)),z_HO514,fun h0_=>absurd ((hoff 9 (by kernel_rfl)).symm.trans h0_) (by decide)⟩
     refine steps_cons ?_ ?_
     ·
      rintro b a w' ⟨v513,m9_,ha,Q_HB,Q_HO514,Q_X9_⟩ hb_ hon hoff
      refine ⟨_,rfl,fun K hK=>?_⟩
      have e17:a.tmps[17]?=some (v513):=by rw [ha];exact putSel_on (e:=(4,17,v513)) 3 rfl rfl (hon 4 (by kernel_rfl)) rfl
      replace ha:=Aside0.mk ha
      have HB:=Aside0.mk Q_HB
      have HO514:=Aside0.mk (Q_HO514 (hon 4 (by kernel_rfl)))
      refine value_ (w1:=w') (v:=v513) (by rfl) rfl ?_ ?_
      ·
       go_simp
       (try simp only [i64_w])
       try rfl
      refine hK.out _ _ ⟨v513,(v513),(by rw [ha.out];exact putSel_upk 7 hb_ rfl rfl rfl),Q_HB,Q_HO514,fun _=>rfl⟩
     refine steps_cons ?_ ?_
     ·
      rintro b a w' ⟨v513,m9_,ha,Q_HB,Q_HO514,Q_X9_⟩ hb_ hon hoff
      refine ⟨_,rfl,fun K hK=>?_⟩
      have e21:a.tmps[21]?=some (.string t516):=by rw [ha];exact putSel_on (e:=(8,21,.string t516)) 6 rfl rfl (hon 8 (by kernel_rfl)) rfl
      replace ha:=Aside0.mk ha
      have HB:=Aside0.mk Q_HB
      have HO514:=Aside0.mk (Q_HO514 (hon 4 (by kernel_rfl)))
      refine value_ (w1:=w') (v:=.string t516) (by rfl) rfl ?_ ?_
      ·
       go_simp
       (try simp only [i64_w])
       try rfl
      refine hK.out _ _ ⟨v513,m9_,(by rw [ha.out];exact putSel_upk 8 hb_ rfl rfl rfl),Q_HB,Q_HO514,Q_X9_⟩
     exact steps_nil
    rintro b a w10 hall ⟨v513,m9_,ha,Q_HB,Q_HO514,Q_X9_⟩
    clear HB
    have hb1_:=hall 1 (by kernel_rfl)
    have hb2_:=hall 2 (by kernel_rfl)
    have hb3_:=hall 3 (by kernel_rfl)
    have hb4_:=hall 4 (by kernel_rfl)
    have hb6_:=hall 6 (by kernel_rfl)
    have hb7_:=hall 7 (by kernel_rfl)
    have hb8_:=hall 8 (by kernel_rfl)
    have hb9_:=hall 9 (by kernel_rfl)
    have hb10_:=hall 10 (by kernel_rfl)
    subst ha
    obtain rfl:=Q_X9_ hb9_
    simp only [putSel,hb1_,hb2_,hb3_,hb4_,hb6_,hb7_,hb8_,hb9_,hb10_,if_true,Act.put,List.setIfInBounds_toArray,List.set_cons_zero,List.set_cons_succ]
    have HB:=Aside0.mk Q_HB
    clear Q_HB
    have HO514:=Aside0.mk (Q_HO514 hb4_)
    clear Q_HO514
    clear hall hb1_ hb2_ hb3_ hb4_ hb6_ hb7_ hb8_ hb9_ hb10_
    try go_wp2
    go_ret2
    exact ⟨_,by first|rfl|(simp [errW_none,errW_some] <;> rfl)|(simp [*,errW_none,errW_some] <;> rfl),by (with_reducible repeat (first|apply Kd.R_alloc|apply Kd.R_drewN|apply Kd.R_drew));exact HO514.out,by repeat (first|(with_reducible first|exact HB.out|apply below_alloc|apply pw_below_drewN|apply below_drew1)|exact HB.out)⟩
   ·
    rw [if_neg c4] at H
    exact absurd H (by simp)
  ·
   rw [if_neg c3] at H
   exact absurd H (by simp)
 ·
  rw [if_neg c2] at H
  have c2b0:((l0.length:Int) == 1)=false:=beq_eq_false_iff_ne.mpr c2
  have c2b1:((l0.length:Int) != 1)=true:=bne_iff_ne.mpr c2
  have H':=Aside0.mk H
  clear H
  go_enter Try.func107,Try.ntmps107
  go_wp2
  go_loopg [4] k (fun kq v4 w'=>∃ (x4_1:Int),v4=.int .i64 x4_1∧Aside0 (merkle_texts.l0 kq l0 x4_1=some (r1,r2))∧Aside0 (kq≤k)∧Aside0 (Below w.heap.size w w'))
  case atStart=>exact ⟨(1),(by first|rfl|(simp;done)|(simp [*];done)),H',⟨Nat.le_refl _⟩,⟨by repeat (first|(with_reducible first|exact HB.out|apply below_alloc|apply pw_below_drewN|apply below_drew1)|exact HB.out)⟩⟩
  case round =>
   clear H'
   try clear c1
   try clear c2
   try clear c2b0
   try clear c2b1
   try clear p2
   try clear c3
   try clear c3b0
   try clear c3b1
   try clear c4
   try clear c4b0
   try clear c4b1
   try clear c4b2
   try clear p5
   try clear q5
   try clear hx5
   try clear qi5
   try clear c10
   try clear hx511_0
   try clear hx515_0
   try clear p511
   try clear p515
   try clear q511
   try clear q515
   obtain ⟨x4_1,rfl,HA,HK1,HB⟩:=hrel
   cases gk with
   | zero=>exact absurd HA.out (by simp [merkle_texts.l0])
   | succ k1 =>
    have H:=HA.out
    clear HA
    simp only [merkle_texts.l0] at H
    by_cases c11:(wrap64 (2 * x4_1)) < (l0.length:Int)
    ·
     rw [if_pos c11] at H
     have c11b0:decide ((wrap64 (2 * x4_1)) < (l0.length:Int))=true:=decide_eq_true c11
     clear c11
     have H':=Aside0.mk H
     clear H
     go_wp2
     go_roundg k1
     case measure=>have:=HK1.out;omega
     case rel=>exact ⟨(wrap64 (x4_1 * 2)),(by first|rfl|(simp;done)|(simp [*];done)),H',⟨by have:=HK1.out;omega⟩,⟨by repeat (first|(with_reducible first|exact HB.out|apply below_alloc|apply pw_below_drewN|apply below_drew1)|exact HB.out)⟩⟩
    ·
     rw [if_neg c11] at H
     have c11b0:decide ((wrap64 (2 * x4_1)) < (l0.length:Int))=false:=decide_eq_false c11
     clear c11
     by_cases c12:0≤x4_1
     ·
      rw [if_pos c12] at H
      have c12b0:=eq_true c12
      have c12b1:decide (0≤x4_1)=true:=decide_eq_true c12
      clear c12
      by_cases c13:x4_1≤(l0.length:Int)
      ·
       rw [if_pos c13] at H
       have c13b0:=eq_true c13
       have c13b1:decide (x4_1≤(l0.length:Int))=true:=decide_eq_true c13
       clear c13
       replace H:=Option.bind_eq_some_iff.mp H
       obtain ⟨⟨t518,t519⟩,A140,H⟩:=H
       replace H:((merkle_texts.f k1 (l0.drop (x4_1:Int).toNat)).bind fun bt523=>((merkle_knot.f t519 bt523.2).bind fun t527=>((slices_Concat_string_string.f (([t518,bt523.1]:List (List ByteArray)))).bind fun t531=>(if t531.length < 8796093022208 then ((sha_Sum.f t527).bind fun t537=>(some ((t531 ++ [t527]),t537))) else (none)))))=some (r1,r2):=H
       have A14:=Aside0.mk A140
       clear A140
       have c15b0:=eq_true (of_decide_eq_true (by first|(with_reducible assumption)|assumption):0≤x4_1)
       have c16b0:=eq_true (of_decide_eq_true (by first|(with_reducible assumption)|assumption):x4_1≤(l0.length:Int))
       replace H:=Option.bind_eq_some_iff.mp H
       obtain ⟨⟨t523,t524⟩,A170,H⟩:=H
       replace H:((merkle_knot.f t519 t524).bind fun t527=>((slices_Concat_string_string.f (([t518,t523]:List (List ByteArray)))).bind fun t531=>(if t531.length < 8796093022208 then ((sha_Sum.f t527).bind fun t537=>(some ((t531 ++ [t527]),t537))) else (none))))=some (r1,r2):=H
       have A17:=Aside0.mk A170
       clear A170
       replace H:=Option.bind_eq_some_iff.mp H
       obtain ⟨t527,A180,H⟩:=H
       replace H:((slices_Concat_string_string.f (([t518,t523]:List (List ByteArray)))).bind fun t531=>(if t531.length < 8796093022208 then ((sha_Sum.f t527).bind fun t537=>(some ((t531 ++ [t527]),t537))) else (none)))=some (r1,r2):=H
       have A18:=Aside0.mk A180
       clear A180
       obtain ⟨y528,hy528⟩:∃ y_:List (List ByteArray),y_=(([t518,t523]:List (List ByteArray))):=⟨_,rfl⟩
       replace H:((slices_Concat_string_string.f y528).bind fun t531=>(if t531.length < 8796093022208 then ((sha_Sum.f t527).bind fun t537=>(some ((t531 ++ [t527]),t537))) else (none)))=some (r1,r2):=by first|(rw [hy528];with_reducible exact H)|(have H2_:=(Option.bind_some _ _).symm.trans H;rw [hy528];with_reducible exact H2_)|(have H2_:=(Option.bind_some _ _).symm.trans H;with_reducible exact H2_)|with_reducible exact H|(rw [hy528];exact H)|exact H
       have Ny528:=Aside0.mk hy528
       clear hy528
       replace H:=Option.bind_eq_some_iff.mp H
       obtain ⟨t531,A190,H⟩:=H
       replace H:(if t531.length < 8796093022208 then ((sha_Sum.f t527).bind fun t537=>(some ((t531 ++ [t527]),t537))) else (none))=some (r1,r2):=H
       have A19:=Aside0.mk A190
       clear A190
       by_cases c20:t531.length < 8796093022208
       ·
        rw [if_pos c20] at H
        have LMc20:=Aside0.mk c20
        clear c20
        obtain ⟨y534,hy534⟩:∃ y_:List ByteArray,y_=(t531 ++ [t527]):=⟨_,rfl⟩
        replace H:((sha_Sum.f t527).bind fun t537=>(some (y534,t537)))=some (r1,r2):=by first|(rw [hy534];with_reducible exact H)|(have H2_:=(Option.bind_some _ _).symm.trans H;rw [hy534];with_reducible exact H2_)|(have H2_:=(Option.bind_some _ _).symm.trans H;with_reducible exact H2_)|with_reducible exact H|(rw [hy534];exact H)|exact H
        have Ny534:=Aside0.mk hy534
        clear hy534
        replace H:=Option.bind_eq_some_iff.mp H
        obtain ⟨t537,A210,H⟩:=H
        replace H:(some (y534,t537))=some (r1,r2):=H
        have A21:=Aside0.mk A210
        clear A210
        simp only [Option.some.injEq,Prod.mk.injEq] at H
        obtain ⟨rfl,rfl⟩:=H
        obtain ⟨i022,hi022,_,hsz22,_⟩:=info_parts info9
        obtain ⟨hcut22,hA22,hC22⟩:=print_take_of (P:=Try.prog) Value.string (⟨#[]⟩:ByteArray) 39 9 .i64 Try.underlying39 hi022 hsz22 A0 c0 l0 x4_1 (of_decide_eq_true (by first|(with_reducible assumption)|assumption)) (of_decide_eq_true (by first|(with_reducible assumption)|assumption)) HC0.out
        have HR517:=Aside0.mk (Kd.C_of_reads (h1:=fun _=>rfl) (hA22 _ (Kd.reads_of_C HR0.out)))
        have HC517:=Aside0.mk hC22
        clear hA22 hC22 hi022 hsz22
        go_wp2_with (first|((with_reducible refine gate_callee (f:=107) rfl ?_);refine goesL_ (some 33) rfl rfl Try.func107 (by kernel_rfl) rfl #[.slice A0 (l0.take (x4_1:Int).toNat).length c0] rfl (by (try simp only [List.map_toArray,List.map_cons,List.map_nil]);first|done|(rw [show (l0.take (x4_1:Int).toNat).length=x4_1.toNat from (by rw [List.length_take];have h_:(x4_1:Int)≤(l0.length:Int):=of_decide_eq_true (by first|(with_reducible assumption)|assumption);omega)] <;> rfl)|rfl|(simp only [List.length_drop,List.length_take];rfl)) ?_;(with_reducible refine (ih k1 (by have:=HK1.out;omega) _ _ (l0.take (x4_1:Int).toNat) t518 t519 _ ?side1 ?side2 A14.out).mono ?_);(case side1=>repeat (first|exact (Kd.C_below HR517.out HB.out)|(with_reducible refine Kd.C_alloc ?_ _)|(with_reducible refine Kd.C_drewN ?_ _)|(with_reducible refine Kd.C_drew ?_)));(case side2=>exact HC517.out);rintro e w23 ⟨v520,rfl,ho0,hb⟩;refine ⟨_,rfl,?_⟩;have n0_:=Aside0.mk (Kd.R_lower ho0 (below_size (by repeat (first|(with_reducible first|exact HB.out|apply below_alloc|apply pw_below_drewN|apply below_drew1)|exact HB.out))));have n1_:=Aside0.mk (below_step (by repeat (first|(with_reducible first|exact HB.out|apply below_alloc|apply pw_below_drewN|apply below_drew1)|exact HB.out)) hb);clear HB;have HO521:=n0_;have HB:=n1_;clear n0_ n1_;(try clear hb);(try clear hb2);(try clear hk);(try clear hi);(try clear ho0);obtain ⟨i024,hi024,_,hsz24,_⟩:=info_parts info9;obtain ⟨A24,hcut24,hA24,hC24⟩:=print_drop_of (P:=Try.prog) Value.string (⟨#[]⟩:ByteArray) 39 9 .i64 Try.underlying39 hi024 hsz24 A0 c0 l0 x4_1 (of_decide_eq_true (by first|(with_reducible assumption)|assumption)) (of_decide_eq_true (by first|(with_reducible assumption)|assumption)) HC0.out;have HR522:=Aside0.mk (Kd.C_of_reads (h1:=fun _=>rfl) (hA24 _ (Kd.reads_of_C HR0.out)));have HC522:=Aside0.mk hC24;clear hA24 hC24 hi024 hsz24)|((with_reducible refine gate_callee (f:=107) rfl ?_);refine goesL_ (some 40) rfl rfl Try.func107 (by kernel_rfl) rfl #[.slice A24 (l0.drop (x4_1:Int).toNat).length (c0 - x4_1.toNat)] rfl (by (try simp only [List.map_toArray,List.map_cons,List.map_nil]);first|done|(rw [show (l0.drop (x4_1:Int).toNat).length=(l0.length - x4_1.toNat) from List.length_drop] <;> rfl)|rfl|(simp only [List.length_drop,List.length_take];rfl)) ?_;(with_reducible refine (ih k1 (by have:=HK1.out;omega) _ _ (l0.drop (x4_1:Int).toNat) t523 t524 _ ?side1 ?side2 A17.out).mono ?_);(case side1=>repeat (first|exact (Kd.C_below HR522.out HB.out)|(with_reducible refine Kd.C_alloc ?_ _)|(with_reducible refine Kd.C_drewN ?_ _)|(with_reducible refine Kd.C_drew ?_)));(case side2=>exact HC522.out);rintro e w25 ⟨v525,rfl,ho0,hb⟩;refine ⟨_,rfl,?_⟩;have n0_:=Aside0.mk (Kd.R_elder' (by (with_reducible repeat (first|apply Kd.R_alloc|apply Kd.R_drewN|apply Kd.R_drew));exact HO521.out) (Kd.R_base ho0) hb);have n1_:=Aside0.mk (Kd.R_lower (Kd.R_new' ho0 (Kd.R_lt (by (with_reducible repeat (first|apply Kd.R_alloc|apply Kd.R_drewN|apply Kd.R_drew));exact HO521.out))) (below_size (by repeat (first|(with_reducible first|exact HB.out|apply below_alloc|apply pw_below_drewN|apply below_drew1)|exact HB.out))));have n2_:=Aside0.mk (below_step (by repeat (first|(with_reducible first|exact HB.out|apply below_alloc|apply pw_below_drewN|apply below_drew1)|exact HB.out)) hb);clear HO521;clear HB;have HO521:=n0_;have HO526:=n1_;have HB:=n2_;clear n0_ n1_ n2_;(try clear hb);(try clear hb2);(try clear hk);(try clear hi);(try clear ho0))|((with_reducible refine gate_callee (f:=96) rfl ?_);refine goesL_ (some 45) rfl rfl Try.func96 (by kernel_rfl) rfl #[.string t519,.string t524] rfl (by (try simp only [List.map_toArray,List.map_cons,List.map_nil]);first|done|rfl|(simp only [List.length_drop,List.length_take];rfl)) ?_;(with_reducible refine (merkle_knot.calls t519 t524 t527 _ A18.out).mono ?_);rintro e w' ⟨rfl,⟨nd,rfl⟩⟩;refine ⟨_,rfl,?_⟩;obtain ⟨Ao26,co26,eo26⟩:=Kd.R_slice HO521.out;subst eo26;obtain ⟨Ao27,co27,eo27⟩:=Kd.R_slice HO526.out;subst eo27)|((with_reducible refine gate_dst (N:=48) rfl ?_);refine Kd.N_lit (Kd.slice 9 Kd.string) _ 39 ?hg (N':=48) ?hd (xs:=([t518,t523]:List (List ByteArray))) (inner:=[.slice Ao26 t518.length co26,.slice Ao27 t523.length co27]) (ok:=(fun _=>True)) (okp:=(fun _=>True)) ?hr ?hp (fun _ hk=>hk) ((show ∀ k_,w25.heap.size≤k_→(fun _=>True) k_ from fun k_ hk=>trivial) _ (Nat.le_refl _)) (Below.refl _ _) (Nat.le_refl _) (by simp) ?_;(case hd=>rfl);(case hg=>rfl);(case hr=>first|(go_simp;done)|(go_simp;rfl));(case hp=>exact (Reps.one (show Kd.FK (Kd.slice 9 Kd.string) _ _ t518 [.slice Ao26 t518.length co26] from (Kd.FK_slice_mk (Kd.R_reads' (Kd.R_mono (ok':=(fun _=>True)) (HO521.out) (fun k_ hk=>trivial))).2.1 (Kd.R_F (Kd.R_mono (ok':=(fun _=>True)) (HO521.out) (fun k_ hk=>trivial))))) (Reps.one (show Kd.FK (Kd.slice 9 Kd.string) _ _ t523 [.slice Ao27 t523.length co27] from (Kd.FK_slice_mk (Kd.R_reads' (Kd.R_mono (ok':=(fun _=>True)) (HO526.out) (fun k_ hk=>trivial))).2.1 (Kd.R_F (Kd.R_mono (ok':=(fun _=>True)) (HO526.out) (fun k_ hk=>trivial))))) (Reps.none _ _))));intro v529 w28 ho29 hb hg_ hnew_;clear hg_ hnew_;(first|rw [← Ny528.out] at ho29|(simp only [Int.reduceToNat] at ho29;rw [← Ny528.out] at ho29));have n0_:=Aside0.mk (Kd.N_lower ho29 (below_size (by repeat (first|(with_reducible first|exact HB.out|apply below_alloc|apply pw_below_drewN|apply below_drew1)|exact HB.out))));have n1_:=Aside0.mk (below_step (by repeat (first|(with_reducible first|exact HB.out|apply below_alloc|apply pw_below_drewN|apply below_drew1)|exact HB.out)) hb);clear HB;clear HO521;clear HO526;have HO530:=n0_;have HB:=n1_;clear n0_ n1_;clear hb ho29;obtain ⟨Ao30,co30,eo30⟩:=Kd.N_slice HO530.out;subst eo30)|((with_reducible refine gate_callee (f:=121) rfl ?_);refine goesL_ (some 49) rfl rfl Try.func121 (by kernel_rfl) rfl #[.slice Ao30 y528.length co30] rfl (by (try simp only [List.map_toArray,List.map_cons,List.map_nil]);first|done|rfl|(simp only [List.length_drop,List.length_take];rfl)) ?_;(with_reducible refine (slices_Concat_string_string.calls _ _ y528 t531 _ ?side1 ?side2 A19.out).mono ?_);(case side1=>repeat (first|exact (Kd.N_reads' HO530.out).2.2|(with_reducible refine Kd.C_alloc ?_ _)|(with_reducible refine Kd.C_drewN ?_ _)|(with_reducible refine Kd.C_drew ?_)));(case side2=>exact (Kd.N_reads' HO530.out).2.1);rintro e w31 ⟨v532,rfl,ho0,hb⟩;refine ⟨_,rfl,?_⟩;have n0_:=Aside0.mk (Kd.N_elder' (by (with_reducible repeat (first|apply Kd.N_alloc|apply Kd.N_drewN|apply Kd.N_drew));exact HO530.out) (Kd.R_base ho0) hb);have n1_:=Aside0.mk (Kd.R_lower ho0 (below_size (by repeat (first|(with_reducible first|exact HB.out|apply below_alloc|apply pw_below_drewN|apply below_drew1)|exact HB.out))));have n2_:=Aside0.mk (below_step (by repeat (first|(with_reducible first|exact HB.out|apply below_alloc|apply pw_below_drewN|apply below_drew1)|exact HB.out)) hb);clear HO530;clear HB;have HO530:=n0_;have HO533:=n1_;have HB:=n2_;clear n0_ n1_ n2_;(try clear hb);(try clear hb2);(try clear hk);(try clear hi);(try clear ho0))|((with_reducible refine gate_builtin (b:=.append) (xs:=#[.tmp 49,.tmp 51]) rfl ?_);at_builtin;refine Kd.R_append Kd.string (w0:=w) w.heap.size rfl (.tmp 49) (.tmp 51) 39 9 (.string ⟨#[]⟩) 16 rfl Try.underlying39 info9 rfl (by decide) (by omega) v532 t531 t527 [.string t527] (fun _=>True) (fun _=>False) rfl rfl ?aP (fun _ hk=>hk.elim) ?aF ?aO ?aB ?aS ?aL ?_;(case aP=>exact rfl);(case aB=>exact (by repeat (first|(with_reducible first|exact HB.out|apply below_alloc|apply pw_below_drewN|apply below_drew1)|exact HB.out)));(case aF=>exact (fun _ _=>trivial));(case aO=>exact (by (with_reducible repeat (first|apply Kd.R_alloc|apply Kd.R_drewN|apply Kd.R_drew));exact HO533.out));(case aS=>exact (below_size (by repeat (first|(with_reducible first|exact HB.out|apply below_alloc|apply pw_below_drewN|apply below_drew1)|exact HB.out))));(case aL=>have:=LMc20.out;omega);intro v535 w32 ho hb hg hat;rw [← Ny534.out] at ho;have n0_:=Aside0.mk (Kd.N_afterv (ok:=(fun _=>True)) (by (with_reducible repeat (first|apply Kd.N_alloc|apply Kd.N_drewN|apply Kd.N_drew));exact HO530.out) hg hat);have n1_:=Aside0.mk (hb);have n2_:=Aside0.mk (ho);clear HO530;clear HB;clear HO533;have HO530:=n0_;have HB:=n1_;have HO536:=n2_;clear n0_ n1_ n2_;clear ho hb hg hat)|((with_reducible refine gate_callee (f:=26) rfl ?_);refine goesL_ (some 54) rfl rfl Try.func26 (by kernel_rfl) rfl #[.string t527] rfl (by (try simp only [List.map_toArray,List.map_cons,List.map_nil]);first|done|rfl|(simp only [List.length_drop,List.length_take];rfl)) ?_;(with_reducible refine (sha_Sum.calls t527 t537 _ A21.out).mono ?_);rintro e w33 ⟨rfl,hb⟩;refine ⟨_,rfl,?_⟩;have n0_:=Aside0.mk (Kd.N_below (by (with_reducible repeat (first|apply Kd.N_alloc|apply Kd.N_drewN|apply Kd.N_drew));exact HO530.out) hb);have n1_:=Aside0.mk (Kd.R_below (by (with_reducible repeat (first|apply Kd.R_alloc|apply Kd.R_drewN|apply Kd.R_drew));exact HO536.out) hb);have n2_:=Aside0.mk (below_step (by repeat (first|(with_reducible first|exact HB.out|apply below_alloc|apply pw_below_drewN|apply below_drew1)|exact HB.out)) hb);clear HO530;clear HO536;clear HB;have HO530:=n0_;have HO536:=n1_;have HB:=n2_;clear n0_ n1_ n2_;(try clear hb);(try clear hb2);(try clear hk);(try clear hi)))
        go_ret2
        exact ⟨_,by first|rfl|(simp [errW_none,errW_some] <;> rfl)|(simp [*,errW_none,errW_some] <;> rfl),by (with_reducible repeat (first|apply Kd.R_alloc|apply Kd.R_drewN|apply Kd.R_drew));exact HO536.out,by repeat (first|(with_reducible first|exact HB.out|apply below_alloc|apply pw_below_drewN|apply below_drew1)|exact HB.out)⟩
       ·
        rw [if_neg c20] at H
        exact absurd H (by simp)
      ·
       rw [if_neg c13] at H
       exact absurd H (by simp)
     ·
      rw [if_neg c12] at H
      exact absurd H (by simp)
end Go.Proofs.Ytelcaepenfjloaa.Print
/-! #### Pr73 -/
namespace Go.Proofs.Ytelcaepenfjloaa.Print
open Go.RowKit Go.Proofs.YtelcaepenfjloaaW.PrintWords Go.Proofs.YtelcaepenfjloaaW.PrintLast Go.Proofs.YtelcaepenfjloaaW.PrintMore
attribute [local go_sem] max2_int min2_int max_two min_two max_three min_three max_four min_four
set_option linter.unusedVariables false
set_option linter.unusedSimpArgs false
/-! ### merkle_Texts: function 73 -/
def merkle_Texts.f (k:Nat) (l0:List ByteArray):Option (List ByteArray):=(merkle_may.f l0).bind fun t538=>(if t538=0 then ((merkle_texts.f k l0).bind fun bt539=>(some bt539.1)) else (some ([]:List ByteArray)))
theorem merkle_Texts.mono:∀ a0 k,LeO (merkle_Texts.f k a0) (merkle_Texts.f (k+1) a0):=by
 intro a0 k
 unfold merkle_Texts.f
 repeat' first
   | (with_reducible exact merkle_texts.mono _ _)
   | (with_reducible exact LeO.refl _)
   | (with_reducible exact LeO.none _)
   | (with_reducible refine LeO.ite ?_ ?_)
   | (with_reducible refine LeO.bind ?_ (fun _=>?_))
   | exact merkle_texts.mono _ _
   | exact LeO.none _
   | refine LeO.ite ?_ ?_
   | refine LeO.bind ?_ (fun _=>?_)
set_option maxHeartbeats 8000000 in
set_option maxRecDepth 100000 in
theorem merkle_Texts.calls (k:Nat) (A0:Option Addr) (c0:Nat) (l0:List ByteArray) (r:List ByteArray) (w:World) (hr0:Kd.C Kd.string w A0 l0.length l0) (hc0:l0.length≤c0) (h:merkle_Texts.f k l0=some r) :
  Calls Try.prog 73 #[.slice A0 l0.length c0] w fun e w'=>∃ v0_:Value,e=.returned (v0_)∧Kd.R Kd.string 9 w' w.heap.size (fun _=>True) v0_ r∧Below w.heap.size w w':=by
 have HR0:=Aside0.mk hr0
 have HC0:=Aside0.mk hc0
 clear hr0 hc0
 have HB:=Aside0.mk (Below.refl w.heap.size w)
 have H:((merkle_may.f l0).bind fun t538=>(if t538=0 then ((merkle_texts.f k l0).bind fun bt539=>(some bt539.1)) else (some ([]:List ByteArray))))=some r:=h
 clear h
 replace H:=Option.bind_eq_some_iff.mp H
 obtain ⟨t538,A20,H⟩:=H
 replace H:(if t538=0 then ((merkle_texts.f k l0).bind fun bt539=>(some bt539.1)) else (some ([]:List ByteArray)))=some r:=H
 have A2:=Aside0.mk A20
 clear A20
 by_cases c3:t538=0
 ·
  rw [if_pos c3] at H
  have c3b0:(t538 == 0)=true:=beq_iff_eq.mpr c3
  have c3b1:(t538 != 0)=false:=bne_eq_false_iff_eq.mpr c3
  clear c3
  replace H:=Option.bind_eq_some_iff.mp H
  obtain ⟨⟨t539,t540⟩,A40,H⟩:=H
  replace H:(some t539)=some r:=H
  have A4:=Aside0.mk A40
  clear A40
  obtain rfl:=Option.some.inj H
  go_enter Try.func73,Try.ntmps73
  go_wp2_with (first|((with_reducible refine gate_callee (f:=91) rfl ?_);refine goesL_ (some 6) rfl rfl Try.func91 (by kernel_rfl) rfl #[.slice A0 l0.length c0] rfl (by (try simp only [List.map_toArray,List.map_cons,List.map_nil]);first|done|rfl|(simp only [List.length_drop,List.length_take];rfl)) ?_;(with_reducible refine (merkle_may.calls _ _ l0 t538 _ ?side1 ?side2 A2.out).mono ?_);(case side1=>repeat (first|exact HR0.out|(with_reducible refine Kd.C_alloc ?_ _)|(with_reducible refine Kd.C_drewN ?_ _)|(with_reducible refine Kd.C_drew ?_)));(case side2=>exact HC0.out);rintro e w5 ⟨rfl,hb⟩;refine ⟨_,rfl,?_⟩;have n0_:=Aside0.mk (below_step (by repeat (first|(with_reducible first|exact HB.out|apply below_alloc|apply pw_below_drewN|apply below_drew1)|exact HB.out)) hb);clear HB;have HB:=n0_;clear n0_;(try clear hb);(try clear hb2);(try clear hk);(try clear hi))|((with_reducible refine gate_callee (f:=107) rfl ?_);refine goesL_ (some 10) rfl rfl Try.func107 (by kernel_rfl) rfl #[.slice A0 l0.length c0] rfl (by (try simp only [List.map_toArray,List.map_cons,List.map_nil]);first|done|rfl|(simp only [List.length_drop,List.length_take];rfl)) ?_;(with_reducible refine (merkle_texts.calls k _ _ l0 t539 t540 _ ?side1 ?side2 A4.out).mono ?_);(case side1=>repeat (first|exact (Kd.C_below HR0.out HB.out)|(with_reducible refine Kd.C_alloc ?_ _)|(with_reducible refine Kd.C_drewN ?_ _)|(with_reducible refine Kd.C_drew ?_)));(case side2=>exact HC0.out);rintro e w6 ⟨v541,rfl,ho0,hb⟩;refine ⟨_,rfl,?_⟩;have n0_:=Aside0.mk (Kd.R_lower ho0 (below_size (by repeat (first|(with_reducible first|exact HB.out|apply below_alloc|apply pw_below_drewN|apply below_drew1)|exact HB.out))));have n1_:=Aside0.mk (below_step (by repeat (first|(with_reducible first|exact HB.out|apply below_alloc|apply pw_below_drewN|apply below_drew1)|exact HB.out)) hb);clear HB;have HO542:=n0_;have HB:=n1_;clear n0_ n1_;(try clear hb);(try clear hb2);(try clear hk);(try clear hi);(try clear ho0)))
  go_ret
  exact ⟨_,by first|rfl|(simp [errW_none,errW_some] <;> rfl)|(simp [*,errW_none,errW_some] <;> rfl),by (with_reducible repeat (first|apply Kd.R_alloc|apply Kd.R_drewN|apply Kd.R_drew));exact HO542.out,by repeat (first|(with_reducible first|exact HB.out|apply below_alloc|apply pw_below_drewN|apply below_drew1)|exact HB.out)⟩
 ·
  rw [if_neg c3] at H
  have c3b0:(t538 == 0)=false:=beq_eq_false_iff_ne.mpr c3
  have c3b1:(t538 != 0)=true:=bne_iff_ne.mpr c3
  obtain rfl:=Option.some.inj H
  go_enter Try.func73,Try.ntmps73
  go_wp2_with (first|((with_reducible refine gate_callee (f:=91) rfl ?_);refine goesL_ (some 6) rfl rfl Try.func91 (by kernel_rfl) rfl #[.slice A0 l0.length c0] rfl (by (try simp only [List.map_toArray,List.map_cons,List.map_nil]);first|done|rfl|(simp only [List.length_drop,List.length_take];rfl)) ?_;(with_reducible refine (merkle_may.calls _ _ l0 t538 _ ?side1 ?side2 A2.out).mono ?_);(case side1=>repeat (first|exact HR0.out|(with_reducible refine Kd.C_alloc ?_ _)|(with_reducible refine Kd.C_drewN ?_ _)|(with_reducible refine Kd.C_drew ?_)));(case side2=>exact HC0.out);rintro e w7 ⟨rfl,hb⟩;refine ⟨_,rfl,?_⟩;have n0_:=Aside0.mk (below_step (by repeat (first|(with_reducible first|exact HB.out|apply below_alloc|apply pw_below_drewN|apply below_drew1)|exact HB.out)) hb);clear HB;have HB:=n0_;clear n0_;(try clear hb);(try clear hb2);(try clear hk);(try clear hi)))
  go_ret
  exact ⟨_,by first|rfl|(simp [errW_none,errW_some] <;> rfl)|(simp [*,errW_none,errW_some] <;> rfl),by first|exact Kd.R_nil _ _ _ _ _|exact Kd.N_nil _ _ _ _ _|exact Kd.V_nil _ _ _ _ _|exact Kd.Q_nil _ _ _ _ _|exact Kd.S_nil _ _ _ _ _,by repeat (first|(with_reducible first|exact HB.out|apply below_alloc|apply pw_below_drewN|apply below_drew1)|exact HB.out)⟩
end Go.Proofs.Ytelcaepenfjloaa.Print
/-! #### Pr49 -/
namespace Go.Proofs.Ytelcaepenfjloaa.Print
open Go.RowKit Go.Proofs.YtelcaepenfjloaaW.PrintWords Go.Proofs.YtelcaepenfjloaaW.PrintLast Go.Proofs.YtelcaepenfjloaaW.PrintMore
attribute [local go_sem] max2_int min2_int max_two min_two max_three min_three max_four min_four
set_option linter.unusedVariables false
set_option linter.unusedSimpArgs false
/-! ### mosaicref03_LeafText: function 49 -/
def mosaicref03_LeafText.f (a0:ByteArray):Option (ByteArray):=if 1+a0.size≤9223372036854775807 then (some ((⟨#[0]⟩:ByteArray) ++ a0)) else (none)
set_option maxHeartbeats 8000000 in
set_option maxRecDepth 100000 in
theorem mosaicref03_LeafText.calls (a0:ByteArray) (r:ByteArray) (w:World) (h:mosaicref03_LeafText.f a0=some r) :
  Calls Try.prog 49 #[.string a0] w fun e w'=>e=.returned (.string r)∧Drawn0 w w':=by
 have H:(if 1+a0.size≤9223372036854775807 then (some ((⟨#[0]⟩:ByteArray) ++ a0)) else (none))=some r:=h
 clear h
 by_cases c2:1+a0.size≤9223372036854775807
 ·
  rw [if_pos c2] at H
  have c2b0:=eq_true c2
  have c2b1:decide (1+a0.size≤9223372036854775807)=true:=decide_eq_true c2
  try have c2b2:(9223372036854775807 < 1+a0.size)=False:=eq_false (Nat.not_lt.2 c2)
  obtain rfl:=Option.some.inj H
  go_enter Try.func49,Try.ntmps49
  go_wp2
  go_ret
  exact ⟨by first|rfl|(simp;done)|(simp [*];done),by repeat (first|exact Drawn0.refl _|apply Drawn0.step)⟩
 ·
  rw [if_neg c2] at H
  exact absurd H (by simp)
end Go.Proofs.Ytelcaepenfjloaa.Print
/-! #### Pr51 -/
namespace Go.Proofs.Ytelcaepenfjloaa.Print
open Go.RowKit Go.Proofs.YtelcaepenfjloaaW.PrintWords Go.Proofs.YtelcaepenfjloaaW.PrintLast Go.Proofs.YtelcaepenfjloaaW.PrintMore
attribute [local go_sem] max2_int min2_int max_two min_two max_three min_three max_four min_four
set_option linter.unusedVariables false
set_option linter.unusedSimpArgs false
/-! ### mosaicref03_KnotText: function 51 -/
def mosaicref03_KnotText.f (a0:ByteArray) (a1:ByteArray):Option (ByteArray):=if 1+a0.size≤9223372036854775807 then (if ((⟨#[1]⟩:ByteArray) ++ a0).size+a1.size≤9223372036854775807 then (some (((⟨#[1]⟩:ByteArray) ++ a0) ++ a1)) else (none)) else (none)
set_option maxHeartbeats 8000000 in
set_option maxRecDepth 100000 in
theorem mosaicref03_KnotText.calls (a0:ByteArray) (a1:ByteArray) (r:ByteArray) (w:World) (h:mosaicref03_KnotText.f a0 a1=some r) :
  Calls Try.prog 51 #[.string a0,.string a1] w fun e w'=>e=.returned (.string r)∧Drawn0 w w':=by
 have H:(if 1+a0.size≤9223372036854775807 then (if ((⟨#[1]⟩:ByteArray) ++ a0).size+a1.size≤9223372036854775807 then (some (((⟨#[1]⟩:ByteArray) ++ a0) ++ a1)) else (none)) else (none))=some r:=h
 clear h
 by_cases c3:1+a0.size≤9223372036854775807
 ·
  rw [if_pos c3] at H
  have c3b0:=eq_true c3
  have c3b1:decide (1+a0.size≤9223372036854775807)=true:=decide_eq_true c3
  try have c3b2:(9223372036854775807 < 1+a0.size)=False:=eq_false (Nat.not_lt.2 c3)
  by_cases c4:((⟨#[1]⟩:ByteArray) ++ a0).size+a1.size≤9223372036854775807
  ·
   rw [if_pos c4] at H
   have c4b0:=eq_true c4
   have c4b1:decide (((⟨#[1]⟩:ByteArray) ++ a0).size+a1.size≤9223372036854775807)=true:=decide_eq_true c4
   try have c4b2:(9223372036854775807 < ((⟨#[1]⟩:ByteArray) ++ a0).size+a1.size)=False:=eq_false (Nat.not_lt.2 c4)
   obtain rfl:=Option.some.inj H
   go_enter Try.func51,Try.ntmps51
   go_wp2
   go_ret
   exact ⟨by first|rfl|(simp;done)|(simp [*];done),by repeat (first|exact Drawn0.refl _|apply Drawn0.step)⟩
  ·
   rw [if_neg c4] at H
   exact absurd H (by simp)
 ·
  rw [if_neg c3] at H
  exact absurd H (by simp)
end Go.Proofs.Ytelcaepenfjloaa.Print
/-! #### Pr99 -/
namespace Go.Proofs.Ytelcaepenfjloaa.Print
open Go.RowKit Go.Proofs.YtelcaepenfjloaaW.PrintWords Go.Proofs.YtelcaepenfjloaaW.PrintLast Go.Proofs.YtelcaepenfjloaaW.PrintMore
attribute [local go_sem] max2_int min2_int max_two min_two max_three min_three max_four min_four
set_option linter.unusedVariables false
set_option linter.unusedSimpArgs false
/-! ### mosaicref03_half: function 99 -/
def mosaicref03_half.l0:Nat→Int→Int→Option (Int)
 | 0,_,_=>none
 | k+1,x0,x3=>if (wrap64 (x3 * 2)) < x0 then (mosaicref03_half.l0 k x0 (wrap64 (x3 * 2))) else (some x3)
def mosaicref03_half.f (k:Nat) (a0:Int):Option (Int):=mosaicref03_half.l0 k a0 1
theorem mosaicref03_half.mono_l:∀ k,(∀ y0 y1,LeO (mosaicref03_half.l0 k y0 y1) (mosaicref03_half.l0 (k+1) y0 y1))
 | 0=>fun _ _ r h=>by simp [mosaicref03_half.l0] at h
 | k+1=>by
  have ih0:=mosaicref03_half.mono_l k
  ·
   intro y0 y1
   unfold mosaicref03_half.l0
   repeat' first
   | (with_reducible exact ih0 _ _)
   | (with_reducible exact LeO.refl _)
   | (with_reducible exact LeO.none _)
   | (with_reducible refine LeO.ite ?_ ?_)
   | (with_reducible refine LeO.bind ?_ (fun _=>?_))
   | exact ih0 _ _
   | exact LeO.none _
   | refine LeO.ite ?_ ?_
   | refine LeO.bind ?_ (fun _=>?_)
theorem mosaicref03_half.mono:∀ a0 k,LeO (mosaicref03_half.f k a0) (mosaicref03_half.f (k+1) a0):=by
 intro a0 k
 have ih0:=mosaicref03_half.mono_l k
 unfold mosaicref03_half.f
 repeat' first
   | (with_reducible exact ih0 _ _)
   | (with_reducible exact LeO.refl _)
   | (with_reducible exact LeO.none _)
   | (with_reducible refine LeO.ite ?_ ?_)
   | (with_reducible refine LeO.bind ?_ (fun _=>?_))
   | exact ih0 _ _
   | exact LeO.none _
   | refine LeO.ite ?_ ?_
   | refine LeO.bind ?_ (fun _=>?_)
set_option maxHeartbeats 8000000 in
set_option maxRecDepth 100000 in
theorem mosaicref03_half.calls (k:Nat) (a0:Int) (r:Int) (w:World) (h:mosaicref03_half.f k a0=some r) :
  Calls Try.prog 99 #[.int .i64 a0] w fun e w'=>e=.returned (.int .i64 r)∧Drawn0 w w':=by
 have H:(mosaicref03_half.l0 k a0 1)=some r:=h
 clear h
 have H':=Aside0.mk H
 clear H
 go_enter Try.func99,Try.ntmps99
 go_wp2
 go_loopg [3] k (fun kq v3 w'=>∃ (x3_1:Int),v3=.int .i64 x3_1∧Aside0 (mosaicref03_half.l0 kq a0 x3_1=some r)∧Aside0 (kq≤k)∧Drawn0 w w')
 case atStart=>exact ⟨(1),(by first|rfl|(simp;done)|(simp [*];done)),H',⟨Nat.le_refl _⟩,by repeat (first|exact Drawn0.refl _|apply Drawn0.step)⟩
 case round =>
  clear H'
  obtain ⟨x3_1,rfl,HA,HK1,⟨m1,rfl⟩⟩:=hrel
  cases gk with
  | zero=>exact absurd HA.out (by simp [mosaicref03_half.l0])
  | succ k1 =>
   have H:=HA.out
   clear HA
   simp only [mosaicref03_half.l0] at H
   by_cases c2:(wrap64 (x3_1 * 2)) < a0
   ·
    rw [if_pos c2] at H
    have c2b0:decide ((wrap64 (x3_1 * 2)) < a0)=true:=decide_eq_true c2
    clear c2
    have H':=Aside0.mk H
    clear H
    go_wp2
    go_roundg k1
    case measure=>have:=HK1.out;omega
    case rel=>exact ⟨(wrap64 (x3_1 * 2)),(by first|rfl|(simp;done)|(simp [*];done)),H',⟨by have:=HK1.out;omega⟩,by repeat (first|exact Drawn0.refl _|apply Drawn0.step)⟩
   ·
    rw [if_neg c2] at H
    have c2b0:decide ((wrap64 (x3_1 * 2)) < a0)=false:=decide_eq_false c2
    clear c2
    obtain rfl:=Option.some.inj H
    go_wp2
    go_ret
    exact ⟨by first|rfl|(simp;done)|(simp [*];done),by repeat (first|exact Drawn0.refl _|apply Drawn0.step)⟩
end Go.Proofs.Ytelcaepenfjloaa.Print
/-! #### Pr95 -/
namespace Go.Proofs.Ytelcaepenfjloaa.Print
open Go.RowKit Go.Proofs.YtelcaepenfjloaaW.PrintWords Go.Proofs.YtelcaepenfjloaaW.PrintLast Go.Proofs.YtelcaepenfjloaaW.PrintMore
attribute [local go_sem] max2_int min2_int max_two min_two max_three min_three max_four min_four
set_option linter.unusedVariables false
set_option linter.unusedSimpArgs false
/-! ### mosaicref03_Top: function 95 -/
def mosaicref03_Top.f:Nat→List ByteArray→Option (ByteArray)
 | 0,_=>none
 | k+1,l0=>if (l0.length:Int)=1 then (if 0 < (l0.length:Int) then ((mosaicref03_LeafText.f (rdOf ByteArray.empty l0 0)).bind fun t306=>((mosaicref01_Sum.f k t306).bind fun t307=>(some t307))) else (none)) else ((mosaicref03_half.f k (l0.length:Int)).bind fun t308=>(if 0≤t308 then (if t308≤(l0.length:Int) then ((mosaicref03_Top.f k (l0.take (t308:Int).toNat)).bind fun t310=>((mosaicref03_Top.f k (l0.drop (t308:Int).toNat)).bind fun t312=>((mosaicref03_KnotText.f t310 t312).bind fun t313=>((mosaicref01_Sum.f k t313).bind fun t314=>(some t314))))) else (none)) else (none)))
theorem mosaicref03_Top.mono_l:∀ k,(∀ y0,LeO (mosaicref03_Top.f k y0) (mosaicref03_Top.f (k+1) y0))
 | 0=>fun _ r h=>by simp [mosaicref03_Top.f] at h
 | k+1=>by
  have ih0:=mosaicref03_Top.mono_l k
  ·
   intro y0
   unfold mosaicref03_Top.f
   repeat' first
   | (with_reducible exact ih0 _)
   | (with_reducible exact mosaicref01_Sum.mono _ _)
   | (with_reducible exact mosaicref03_half.mono _ _)
   | (with_reducible exact LeO.refl _)
   | (with_reducible exact LeO.none _)
   | (with_reducible refine LeO.ite ?_ ?_)
   | (with_reducible refine LeO.bind ?_ (fun _=>?_))
   | exact ih0 _
   | exact mosaicref01_Sum.mono _ _
   | exact mosaicref03_half.mono _ _
   | exact LeO.none _
   | refine LeO.ite ?_ ?_
   | refine LeO.bind ?_ (fun _=>?_)
theorem mosaicref03_Top.mono:∀ a0 k,LeO (mosaicref03_Top.f k a0) (mosaicref03_Top.f (k+1) a0):=by
 intro a0 k
 have ih0:=mosaicref03_Top.mono_l k
 exact ih0 a0
def mosaicref03_Top.T4:Bool×List (List Nat×List Nat):=(true,[([],[]),([],[]),([0,1],[0,1]),([2],[2]),([],[]),([],[]),([4,5],[4,5]),([6,3],[6]),([3,7,7],[3,7]),([8,8],[8]),([9,9,0,1,2,3,4,5,6,7,8,9],[9])])
def mosaicref03_Top.B4:List Nat:=[0,0,3,7,0,0,48,127,255,511,1023]
theorem mosaicref03_Top.tab4:rtab .any (opsOf Try.f95 4)=mosaicref03_Top.T4:=by kernel_rfl
theorem mosaicref03_Top.bits4:waitsOk mosaicref03_Top.T4.2 mosaicref03_Top.B4=true:=by kernel_rfl
set_option maxHeartbeats 8000000 in
set_option maxRecDepth 100000 in
theorem mosaicref03_Top.calls (k:Nat):∀ (A0:Option Addr) (c0:Nat) (l0:List ByteArray) (r:ByteArray) (w:World) (hr0:Kd.C Kd.string w A0 l0.length l0) (hc0:l0.length≤c0) (h:mosaicref03_Top.f k l0=some r),
  Calls Try.prog 95 #[.slice A0 l0.length c0] w fun e w'=>e=.returned (.string r)∧Below w.heap.size w w':=by
 induction k using Nat.strongRecOn with
 | _ k ih =>
 intro A0 c0 l0 r w hr0 hc0 h
 cases k with
 | zero=>exact absurd h (by simp [mosaicref03_Top.f])
 | succ k =>
 simp only [mosaicref03_Top.f] at h
 have HR0:=Aside0.mk hr0
 have HC0:=Aside0.mk hc0
 clear hr0 hc0
 have HB:=Aside0.mk (Below.refl w.heap.size w)
 have H:(if (l0.length:Int)=1 then (if 0 < (l0.length:Int) then ((mosaicref03_LeafText.f (rdOf ByteArray.empty l0 0)).bind fun t306=>((mosaicref01_Sum.f k t306).bind fun t307=>(some t307))) else (none)) else ((mosaicref03_half.f k (l0.length:Int)).bind fun t308=>(if 0≤t308 then (if t308≤(l0.length:Int) then ((mosaicref03_Top.f k (l0.take (t308:Int).toNat)).bind fun t310=>((mosaicref03_Top.f k (l0.drop (t308:Int).toNat)).bind fun t312=>((mosaicref03_KnotText.f t310 t312).bind fun t313=>((mosaicref01_Sum.f k t313).bind fun t314=>(some t314))))) else (none)) else (none))))=some r:=h
 clear h
 by_cases c2:(l0.length:Int)=1
 ·
  rw [if_pos c2] at H
  have c2b0:((l0.length:Int) == 1)=true:=beq_iff_eq.mpr c2
  have c2b1:((l0.length:Int) != 1)=false:=bne_eq_false_iff_eq.mpr c2
  clear c2
  by_cases c3:0 < (l0.length:Int)
  ·
   rw [if_pos c3] at H
   have c3b0:decide (0 < (l0.length:Int))=true:=decide_eq_true c3
   have c3b1:decide (0 < l0.length)=true:=decide_eq_true (by omega)
   clear c3
   replace H:=Option.bind_eq_some_iff.mp H
   obtain ⟨t306,A40,H⟩:=H
   replace H:((mosaicref01_Sum.f k t306).bind fun t307=>(some t307))=some r:=H
   have A4:=Aside0.mk A40
   clear A40
   replace H:=Option.bind_eq_some_iff.mp H
   obtain ⟨t307,A50,H⟩:=H
   replace H:(some t307)=some r:=H
   have A5:=Aside0.mk A50
   clear A50
   obtain rfl:=Option.some.inj H
   have p305:0≤(0:Int):=(by omega)
   have q305:0 < (l0.length:Int):=of_decide_eq_true (by first|(with_reducible assumption)|assumption)
   obtain ⟨ad305,e305,hx305_0⟩:=Kd.at_string HR0.out 0 p305 q305
   cases e305
   have qi305:(0 < l0.length)=True:=eq_true (by omega)
   (try rw [show ((0:Int)).toNat=0 from rfl] at hx305_0)
   (try rw [Addr.add_zero'] at hx305_0)
   replace p305:=eq_true p305
   replace q305:=eq_true q305
   go_enter Try.func95,Try.ntmps95
   go_wp2_with (first|((with_reducible refine gate_callee (f:=49) rfl ?_);refine goesL_ (some 10) rfl rfl Try.func49 (by kernel_rfl) rfl #[.string (rdOf ByteArray.empty l0 0)] rfl (by (try simp only [List.map_toArray,List.map_cons,List.map_nil]);first|done|rfl|(simp only [List.length_drop,List.length_take];rfl)) ?_;(with_reducible refine (mosaicref03_LeafText.calls (rdOf ByteArray.empty l0 0) t306 _ A4.out).mono ?_);rintro e w' ⟨rfl,⟨nd,rfl⟩⟩;refine ⟨_,rfl,?_⟩)|((with_reducible refine gate_callee (f:=27) rfl ?_);refine goesL_ (some 11) rfl rfl Try.func27 (by kernel_rfl) rfl #[.string t306] rfl (by (try simp only [List.map_toArray,List.map_cons,List.map_nil]);first|done|rfl|(simp only [List.length_drop,List.length_take];rfl)) ?_;(with_reducible refine (mosaicref01_Sum.calls k t306 t307 _ A5.out).mono ?_);rintro e w6 ⟨rfl,hb⟩;refine ⟨_,rfl,?_⟩;have n0_:=Aside0.mk (below_step (by repeat (first|(with_reducible first|exact HB.out|apply below_alloc|apply pw_below_drewN|apply below_drew1)|exact HB.out)) hb);clear HB;have HB:=n0_;clear n0_;(try clear hb);(try clear hb2);(try clear hk);(try clear hi)))
   go_ret
   exact ⟨by first|rfl|(simp [errW_none,errW_some] <;> rfl)|(simp [*,errW_none,errW_some] <;> rfl),by repeat (first|(with_reducible first|exact HB.out|apply below_alloc|apply pw_below_drewN|apply below_drew1)|exact HB.out)⟩
  ·
   rw [if_neg c3] at H
   exact absurd H (by simp)
 ·
  rw [if_neg c2] at H
  have c2b0:((l0.length:Int) == 1)=false:=beq_eq_false_iff_ne.mpr c2
  have c2b1:((l0.length:Int) != 1)=true:=bne_iff_ne.mpr c2
  replace H:=Option.bind_eq_some_iff.mp H
  obtain ⟨t308,A70,H⟩:=H
  replace H:(if 0≤t308 then (if t308≤(l0.length:Int) then ((mosaicref03_Top.f k (l0.take (t308:Int).toNat)).bind fun t310=>((mosaicref03_Top.f k (l0.drop (t308:Int).toNat)).bind fun t312=>((mosaicref03_KnotText.f t310 t312).bind fun t313=>((mosaicref01_Sum.f k t313).bind fun t314=>(some t314))))) else (none)) else (none))=some r:=H
  have A7:=Aside0.mk A70
  clear A70
  by_cases c8:0≤t308
  ·
   rw [if_pos c8] at H
   have c8b0:=eq_true c8
   have c8b1:decide (0≤t308)=true:=decide_eq_true c8
   clear c8
   by_cases c9:t308≤(l0.length:Int)
   ·
    rw [if_pos c9] at H
    have c9b0:=eq_true c9
    have c9b1:decide (t308≤(l0.length:Int))=true:=decide_eq_true c9
    clear c9
    replace H:=Option.bind_eq_some_iff.mp H
    obtain ⟨t310,A100,H⟩:=H
    replace H:((mosaicref03_Top.f k (l0.drop (t308:Int).toNat)).bind fun t312=>((mosaicref03_KnotText.f t310 t312).bind fun t313=>((mosaicref01_Sum.f k t313).bind fun t314=>(some t314))))=some r:=H
    have A10:=Aside0.mk A100
    clear A100
    have c11b0:=eq_true (of_decide_eq_true (by first|(with_reducible assumption)|assumption):0≤t308)
    have c12b0:=eq_true (of_decide_eq_true (by first|(with_reducible assumption)|assumption):t308≤(l0.length:Int))
    replace H:=Option.bind_eq_some_iff.mp H
    obtain ⟨t312,A130,H⟩:=H
    replace H:((mosaicref03_KnotText.f t310 t312).bind fun t313=>((mosaicref01_Sum.f k t313).bind fun t314=>(some t314)))=some r:=H
    have A13:=Aside0.mk A130
    clear A130
    replace H:=Option.bind_eq_some_iff.mp H
    obtain ⟨t313,A140,H⟩:=H
    replace H:((mosaicref01_Sum.f k t313).bind fun t314=>(some t314))=some r:=H
    have A14:=Aside0.mk A140
    clear A140
    replace H:=Option.bind_eq_some_iff.mp H
    obtain ⟨t314,A150,H⟩:=H
    replace H:(some t314)=some r:=H
    have A15:=Aside0.mk A150
    clear A150
    obtain rfl:=Option.some.inj H
    go_enter Try.func95,Try.ntmps95
    try go_wp2_with (first|((with_reducible refine gate_callee (f:=99) rfl ?_);refine goesL_ (some 14) rfl rfl Try.func99 (by kernel_rfl) rfl #[.int .i64 (l0.length:Int)] rfl (by (try simp only [List.map_toArray,List.map_cons,List.map_nil]);first|done|rfl|(simp only [List.length_drop,List.length_take];rfl)) ?_;(with_reducible refine (mosaicref03_half.calls k (l0.length:Int) t308 _ A7.out).mono ?_);rintro e w' ⟨rfl,⟨nd,rfl⟩⟩;refine ⟨_,rfl,?_⟩))
    have n0_:=Aside0.mk (below_drew1 (pw_below_drewN HB.out nd))
    clear HB
    have HB:=n0_
    clear n0_
    obtain ⟨i017,hi017,_,hsz17,_⟩:=info_parts info9
    obtain ⟨hcut17,hA17,hC17⟩:=print_take_of (P:=Try.prog) Value.string (⟨#[]⟩:ByteArray) 39 9 .i64 Try.underlying39 hi017 hsz17 A0 c0 l0 t308 (of_decide_eq_true (by first|(with_reducible assumption)|assumption)) (of_decide_eq_true (by first|(with_reducible assumption)|assumption)) HC0.out
    have HR309:=Aside0.mk (Kd.C_of_reads (h1:=fun _=>rfl) (hA17 _ (Kd.reads_of_C HR0.out)))
    have HC309:=Aside0.mk hC17
    clear hA17 hC17 hi017 hsz17
    obtain ⟨i018,hi018,_,hsz18,_⟩:=info_parts info9
    obtain ⟨A18,hcut18,hA18,hC18⟩:=print_drop_of (P:=Try.prog) Value.string (⟨#[]⟩:ByteArray) 39 9 .i64 Try.underlying39 hi018 hsz18 A0 c0 l0 t308 (of_decide_eq_true (by first|(with_reducible assumption)|assumption)) (of_decide_eq_true (by first|(with_reducible assumption)|assumption)) HC0.out
    have HR311:=Aside0.mk (Kd.C_of_reads (h1:=fun _=>rfl) (hA18 _ (Kd.reads_of_C HR0.out)))
    have HC311:=Aside0.mk hC18
    clear hA18 hC18 hi018 hsz18
    refine start_ (n:=11) (S:=fun w'=>True) (ds:=[]) #[false,false,false,false,false,false,false,false,false,false,false] (by kernel_rfl) rfl rfl trivial (fun hHeld=>?_);refine with_tabW mosaicref03_Top.tab4 mosaicref03_Top.bits4 (fun HT_ HW_=>?_)
    generalize (w.drewN nd).drew=w16 at HB HR309 HR311 hHeld ⊢
    refine pure_ (i:=0) (N:=some 15) (v:=?_) (a':=?_) #[true,false,false,false,false,false,false,false,false,false,false] rfl rfl (any_of HT_.out (by kernel_rfl)) (fun _ _ _ h=>h) (Or.inl ⟨by rfl,?_⟩) ?_ ?_
    rotate_left
    ·
     intro w'
     go_simp
     with_reducible rfl
    rotate_left
    ·
     simp only [Act.put,List.setIfInBounds_toArray,List.set_cons_zero,List.set_cons_succ,i64_w,i32_w]
     rfl
    refine pure_ (i:=1) (N:=some 16) (v:=?_) (a':=?_) #[true,true,false,false,false,false,false,false,false,false,false] rfl rfl (any_of HT_.out (by kernel_rfl)) (fun _ _ _ h=>h) (Or.inl ⟨by rfl,?_⟩) ?_ ?_
    rotate_left
    ·
     intro w'
     go_simp
     with_reducible rfl
    rotate_left
    ·
     simp only [Act.put,List.setIfInBounds_toArray,List.set_cons_zero,List.set_cons_succ,i64_w,i32_w]
     rfl
    refine pure_ (i:=2) (N:=some 17) (v:=?_) (a':=?_) #[true,true,true,false,false,false,false,false,false,false,false] rfl rfl (any_of HT_.out (by kernel_rfl)) (fun _ _ _ h=>h) (Or.inl ⟨by rfl,?_⟩) ?_ ?_
    rotate_left
    ·
     intro w'
     go_simp
     with_reducible rfl
    rotate_left
    ·
     simp only [Act.put,List.setIfInBounds_toArray,List.set_cons_zero,List.set_cons_succ,i64_w,i32_w]
     rfl
    refine pure_ (i:=4) (N:=some 19) (v:=?_) (a':=?_) #[true,true,true,false,true,false,false,false,false,false,false] rfl rfl (any_of HT_.out (by kernel_rfl)) (fun _ _ _ h=>h) (Or.inl ⟨by rfl,?_⟩) ?_ ?_
    rotate_left
    ·
     intro w'
     go_simp
     with_reducible rfl
    rotate_left
    ·
     simp only [Act.put,List.setIfInBounds_toArray,List.set_cons_zero,List.set_cons_succ,i64_w,i32_w]
     rfl
    refine pure_ (i:=5) (N:=some 20) (v:=?_) (a':=?_) #[true,true,true,false,true,true,false,false,false,false,false] rfl rfl (any_of HT_.out (by kernel_rfl)) (fun _ _ _ h=>h) (Or.inl ⟨by rfl,?_⟩) ?_ ?_
    rotate_left
    ·
     intro w'
     go_simp
     with_reducible rfl
    rotate_left
    ·
     simp only [Act.put,List.setIfInBounds_toArray,List.set_cons_zero,List.set_cons_succ,i64_w,i32_w]
     rfl
    refine pure_ (i:=6) (N:=some 21) (v:=?_) (a':=?_) #[true,true,true,false,true,true,true,false,false,false,false] rfl rfl (any_of HT_.out (by kernel_rfl)) (fun _ _ _ h=>h) (Or.inl ⟨by rfl,?_⟩) ?_ ?_
    rotate_left
    ·
     intro w'
     go_simp
     with_reducible rfl
    rotate_left
    ·
     simp only [Act.put,List.setIfInBounds_toArray,List.set_cons_zero,List.set_cons_succ,i64_w,i32_w]
     rfl
    refine one_ (i:=3) (N:=some 18) #[true,true,true,true,true,true,true,false,false,false,false] rfl rfl (one_of HT_.out (by kernel_rfl)) (by decide) (fun K hK=>?_)
    refine goes_ Try.func95 (by kernel_rfl) rfl #[.slice A0 (l0.take (t308:Int).toNat).length c0] (by rfl) rfl rfl (by (try simp only [List.map_toArray,List.map_cons,List.map_nil]);first|done|(rw [show (l0.take (t308:Int).toNat).length=t308.toNat from (by rw [List.length_take];have h_:(t308:Int)≤(l0.length:Int):=of_decide_eq_true (by first|(with_reducible assumption)|assumption);omega)] <;> rfl)|rfl|(simp only [List.length_drop,List.length_take];rfl)) ?_
    with_reducible refine (ih k (by omega) _ _ (l0.take (t308:Int).toNat) t310 _ ?side1 ?side2 A10.out).mono ?_
    (case side1=>repeat (first|exact (Kd.C_below HR309.out HB.out)|(with_reducible refine Kd.C_alloc ?_ _)|(with_reducible refine Kd.C_drewN ?_ _)|(with_reducible refine Kd.C_drew ?_)))
    (case side2=>exact HC309.out)
    rintro e w19 ⟨rfl,hb⟩
    refine ⟨_,rfl,?_⟩
    have n0_:=Aside0.mk (below_step (by repeat (first|(with_reducible first|exact HB.out|apply below_alloc|apply pw_below_drewN|apply below_drew1)|exact HB.out)) hb)
    clear HB
    have HB:=n0_
    clear n0_
    (try clear hb)
    (try clear hb2)
    (try clear hk)
    (try clear hi)
    refine hK.out _ _ trivial (fun hHeld=>?_)
    clear hK K
    refine norm_ (a':=?_) ?_ ?_
    rotate_left
    ·
     show Act.put _ (some 18) _=_
     simp only [Act.put,List.setIfInBounds_toArray,List.set_cons_zero,List.set_cons_succ,i64_w,i32_w]
     rfl
    refine one_ (i:=7) (N:=some 22) #[true,true,true,true,true,true,true,true,false,false,false] rfl rfl (one_of HT_.out (by kernel_rfl)) (by decide) (fun K hK=>?_)
    refine goes_ Try.func95 (by kernel_rfl) rfl #[.slice A18 (l0.drop (t308:Int).toNat).length (c0 - t308.toNat)] (by rfl) rfl rfl (by (try simp only [List.map_toArray,List.map_cons,List.map_nil]);first|done|(rw [show (l0.drop (t308:Int).toNat).length=(l0.length - t308.toNat) from List.length_drop] <;> rfl)|rfl|(simp only [List.length_drop,List.length_take];rfl)) ?_
    with_reducible refine (ih k (by omega) _ _ (l0.drop (t308:Int).toNat) t312 _ ?side1 ?side2 A13.out).mono ?_
    (case side1=>repeat (first|exact (Kd.C_below HR311.out HB.out)|(with_reducible refine Kd.C_alloc ?_ _)|(with_reducible refine Kd.C_drewN ?_ _)|(with_reducible refine Kd.C_drew ?_)))
    (case side2=>exact HC311.out)
    rintro e w20 ⟨rfl,hb⟩
    refine ⟨_,rfl,?_⟩
    have n0_:=Aside0.mk (below_step (by repeat (first|(with_reducible first|exact HB.out|apply below_alloc|apply pw_below_drewN|apply below_drew1)|exact HB.out)) hb)
    clear HB
    have HB:=n0_
    clear n0_
    (try clear hb)
    (try clear hb2)
    (try clear hk)
    (try clear hi)
    refine hK.out _ _ trivial (fun hHeld=>?_)
    clear hK K
    refine norm_ (a':=?_) ?_ ?_
    rotate_left
    ·
     show Act.put _ (some 22) _=_
     simp only [Act.put,List.setIfInBounds_toArray,List.set_cons_zero,List.set_cons_succ,i64_w,i32_w]
     rfl
    refine one_ (i:=8) (N:=some 23) #[true,true,true,true,true,true,true,true,true,false,false] rfl rfl (one_of HT_.out (by kernel_rfl)) (by decide) (fun K hK=>?_)
    refine goes_ Try.func51 (by kernel_rfl) rfl #[.string t310,.string t312] (by rfl) rfl rfl (by (try simp only [List.map_toArray,List.map_cons,List.map_nil]);first|done|rfl|(simp only [List.length_drop,List.length_take];rfl)) ?_
    with_reducible refine (mosaicref03_KnotText.calls t310 t312 t313 _ A14.out).mono ?_
    rintro e w' ⟨rfl,⟨nd,rfl⟩⟩
    refine ⟨_,rfl,?_⟩
    refine hK.out _ _ trivial (fun hHeld=>?_)
    clear hK K
    refine norm_ (a':=?_) ?_ ?_
    rotate_left
    ·
     show Act.put _ (some 23) _=_
     simp only [Act.put,List.setIfInBounds_toArray,List.set_cons_zero,List.set_cons_succ,i64_w,i32_w]
     rfl
    refine one_ (i:=9) (N:=some 24) #[true,true,true,true,true,true,true,true,true,true,false] rfl rfl (one_of HT_.out (by kernel_rfl)) (by decide) (fun K hK=>?_)
    refine goes_ Try.func27 (by kernel_rfl) rfl #[.string t313] (by rfl) rfl rfl (by (try simp only [List.map_toArray,List.map_cons,List.map_nil]);first|done|rfl|(simp only [List.length_drop,List.length_take];rfl)) ?_
    with_reducible refine (mosaicref01_Sum.calls k t313 t314 _ A15.out).mono ?_
    rintro e w21 ⟨rfl,hb⟩
    refine ⟨_,rfl,?_⟩
    have n0_:=Aside0.mk (below_step (by repeat (first|(with_reducible first|exact HB.out|apply below_alloc|apply pw_below_drewN|apply below_drew1)|exact HB.out)) hb)
    clear HB
    have HB:=n0_
    clear n0_
    (try clear hb)
    (try clear hb2)
    (try clear hk)
    (try clear hi)
    refine hK.out _ _ trivial (fun hHeld=>?_)
    clear hK K
    refine norm_ (a':=?_) ?_ ?_
    rotate_left
    ·
     show Act.put _ (some 24) _=_
     simp only [Act.put,List.setIfInBounds_toArray,List.set_cons_zero,List.set_cons_succ,i64_w,i32_w]
     rfl
    refine pure_ (i:=10) (N:=some 2) (v:=?_) (a':=?_) #[true,true,true,true,true,true,true,true,true,true,true] rfl rfl (any_of HT_.out (by kernel_rfl)) (fun _ _ _ h=>h) (Or.inl ⟨by rfl,?_⟩) ?_ ?_
    rotate_left
    ·
     intro w'
     go_simp
     with_reducible rfl
    rotate_left
    ·
     simp only [Act.put,List.setIfInBounds_toArray,List.set_cons_zero,List.set_cons_succ,i64_w,i32_w]
     rfl
    refine done_ (done_of HT_.out (by kernel_rfl)) ?_
    try go_wp2
    go_ret
    exact ⟨by first|rfl|(simp [errW_none,errW_some] <;> rfl)|(simp [*,errW_none,errW_some] <;> rfl),by repeat (first|(with_reducible first|exact HB.out|apply below_alloc|apply pw_below_drewN|apply below_drew1)|exact HB.out)⟩
   ·
    rw [if_neg c9] at H
    exact absurd H (by simp)
  ·
   rw [if_neg c8] at H
   exact absurd H (by simp)
end Go.Proofs.Ytelcaepenfjloaa.Print
/-! #### Pr108 -/
namespace Go.Proofs.Ytelcaepenfjloaa.Print
open Go.RowKit Go.Proofs.YtelcaepenfjloaaW.PrintWords Go.Proofs.YtelcaepenfjloaaW.PrintLast Go.Proofs.YtelcaepenfjloaaW.PrintMore
attribute [local go_sem] max2_int min2_int max_two min_two max_three min_three max_four min_four
set_option linter.unusedVariables false
set_option linter.unusedSimpArgs false
/-! ### mosaicref03_texts: function 108 -/
mutual
def mosaicref03_texts.l0:Nat→List ByteArray→Int→List ByteArray→List ByteArray→Int→Option (List ByteArray)
 | 0,_,_,_,_,_=>none
 | k+1,x0,x3,x4,x5,x6=>if x6 < (x5.length:Int) then (if 0≤x6 then (if x4.length < 8796093022208 then (mosaicref03_texts.l0 k x0 x3 (x4 ++ [rdOf ByteArray.empty x5 x6]) x5 (wrap64 (x6+1))) else (none)) else (none)) else (if 0≤x3 then (if x3≤(x0.length:Int) then ((mosaicref03_Top.f k (x0.take (x3:Int).toNat)).bind fun t562=>((mosaicref03_Top.f k (x0.drop (x3:Int).toNat)).bind fun t564=>((mosaicref03_KnotText.f t562 t564).bind fun t565=>(if x4.length < 8796093022208 then (some (x4 ++ [t565])) else (none))))) else (none)) else (none))
def mosaicref03_texts.f:Nat→List ByteArray→Option (List ByteArray)
 | 0,_=>none
 | k+1,l0=>if (l0.length:Int)=1 then (if 0 < (l0.length:Int) then ((mosaicref03_LeafText.f (rdOf ByteArray.empty l0 0)).bind fun t544=>(some (([t544]:List ByteArray)))) else (none)) else ((mosaicref03_half.f k (l0.length:Int)).bind fun t548=>(if 0≤t548 then (if t548≤(l0.length:Int) then ((mosaicref03_texts.f k (l0.take (t548:Int).toNat)).bind fun t550=>((mosaicref03_texts.f k (l0.drop (t548:Int).toNat)).bind fun t554=>(mosaicref03_texts.l0 k l0 t548 t550 t554 0))) else (none)) else (none)))
end
theorem mosaicref03_texts.mono_l:∀ k,(∀ y0,LeO (mosaicref03_texts.f k y0) (mosaicref03_texts.f (k+1) y0))∧(∀ y0 y1 y2 y3 y4,LeO (mosaicref03_texts.l0 k y0 y1 y2 y3 y4) (mosaicref03_texts.l0 (k+1) y0 y1 y2 y3 y4))
 | 0=>⟨fun _ r h=>by simp [mosaicref03_texts.f] at h,fun _ _ _ _ _ r h=>by simp [mosaicref03_texts.l0] at h⟩
 | k+1=>by
  obtain ⟨ih0,ih1⟩:=mosaicref03_texts.mono_l k
  refine ⟨?_,?_⟩
  ·
   intro y0
   unfold mosaicref03_texts.f
   repeat' first
   | (with_reducible exact ih0 _)
   | (with_reducible exact ih1 _ _ _ _ _)
   | (with_reducible exact mosaicref03_Top.mono _ _)
   | (with_reducible exact mosaicref03_half.mono _ _)
   | (with_reducible exact LeO.refl _)
   | (with_reducible exact LeO.none _)
   | (with_reducible refine LeO.ite ?_ ?_)
   | (with_reducible refine LeO.bind ?_ (fun _=>?_))
   | exact ih0 _
   | exact ih1 _ _ _ _ _
   | exact mosaicref03_Top.mono _ _
   | exact mosaicref03_half.mono _ _
   | exact LeO.none _
   | refine LeO.ite ?_ ?_
   | refine LeO.bind ?_ (fun _=>?_)
  ·
   intro y0 y1 y2 y3 y4
   unfold mosaicref03_texts.l0
   repeat' first
   | (with_reducible exact ih0 _)
   | (with_reducible exact ih1 _ _ _ _ _)
   | (with_reducible exact mosaicref03_Top.mono _ _)
   | (with_reducible exact mosaicref03_half.mono _ _)
   | (with_reducible exact LeO.refl _)
   | (with_reducible exact LeO.none _)
   | (with_reducible refine LeO.ite ?_ ?_)
   | (with_reducible refine LeO.bind ?_ (fun _=>?_))
   | exact ih0 _
   | exact ih1 _ _ _ _ _
   | exact mosaicref03_Top.mono _ _
   | exact mosaicref03_half.mono _ _
   | exact LeO.none _
   | refine LeO.ite ?_ ?_
   | refine LeO.bind ?_ (fun _=>?_)
theorem mosaicref03_texts.mono:∀ a0 k,LeO (mosaicref03_texts.f k a0) (mosaicref03_texts.f (k+1) a0):=by
 intro a0 k
 obtain ⟨ih0,ih1⟩:=mosaicref03_texts.mono_l k
 exact ih0 a0
def mosaicref03_texts.T10:Bool×List (List Nat×List Nat):=(true,[([],[]),([],[]),([],[]),([1,2],[1,2]),([3],[3]),([],[]),([],[]),([5,6],[5,6]),([7,4],[7]),([4,8,8],[4,8]),([9],[9]),([0,10,9],[0,10]),([11,11,0,1,2,3,4,5,6,7,8,9,10,11],[0,11])])
def mosaicref03_texts.B10:List Nat:=[0,0,0,6,14,0,0,96,254,510,1022,2047,4095]
theorem mosaicref03_texts.tab10:rtab .any (opsOf Try.f108 10)=mosaicref03_texts.T10:=by kernel_rfl
theorem mosaicref03_texts.bits10:waitsOk mosaicref03_texts.T10.2 mosaicref03_texts.B10=true:=by kernel_rfl
set_option maxHeartbeats 8000000 in
set_option maxRecDepth 100000 in
theorem mosaicref03_texts.calls (k:Nat):∀ (A0:Option Addr) (c0:Nat) (l0:List ByteArray) (r:List ByteArray) (w:World) (hr0:Kd.C Kd.string w A0 l0.length l0) (hc0:l0.length≤c0) (h:mosaicref03_texts.f k l0=some r),
  Calls Try.prog 108 #[.slice A0 l0.length c0] w fun e w'=>∃ v0_:Value,e=.returned (v0_)∧Kd.R Kd.string 9 w' w.heap.size (fun _=>True) v0_ r∧Below w.heap.size w w':=by
 induction k using Nat.strongRecOn with
 | _ k ih =>
 intro A0 c0 l0 r w hr0 hc0 h
 cases k with
 | zero=>exact absurd h (by simp [mosaicref03_texts.f])
 | succ k =>
 simp only [mosaicref03_texts.f] at h
 have HR0:=Aside0.mk hr0
 have HC0:=Aside0.mk hc0
 clear hr0 hc0
 have HB:=Aside0.mk (Below.refl w.heap.size w)
 have H:(if (l0.length:Int)=1 then (if 0 < (l0.length:Int) then ((mosaicref03_LeafText.f (rdOf ByteArray.empty l0 0)).bind fun t544=>(some (([t544]:List ByteArray)))) else (none)) else ((mosaicref03_half.f k (l0.length:Int)).bind fun t548=>(if 0≤t548 then (if t548≤(l0.length:Int) then ((mosaicref03_texts.f k (l0.take (t548:Int).toNat)).bind fun t550=>((mosaicref03_texts.f k (l0.drop (t548:Int).toNat)).bind fun t554=>(mosaicref03_texts.l0 k l0 t548 t550 t554 0))) else (none)) else (none))))=some r:=h
 clear h
 by_cases c2:(l0.length:Int)=1
 ·
  rw [if_pos c2] at H
  have c2b0:((l0.length:Int) == 1)=true:=beq_iff_eq.mpr c2
  have c2b1:((l0.length:Int) != 1)=false:=bne_eq_false_iff_eq.mpr c2
  clear c2
  by_cases c3:0 < (l0.length:Int)
  ·
   rw [if_pos c3] at H
   have c3b0:decide (0 < (l0.length:Int))=true:=decide_eq_true c3
   have c3b1:decide (0 < l0.length)=true:=decide_eq_true (by omega)
   clear c3
   replace H:=Option.bind_eq_some_iff.mp H
   obtain ⟨t544,A40,H⟩:=H
   replace H:(some (([t544]:List ByteArray)))=some r:=H
   have A4:=Aside0.mk A40
   clear A40
   obtain ⟨y545,hy545⟩:∃ y_:List ByteArray,y_=(([t544]:List ByteArray)):=⟨_,rfl⟩
   replace H:(some y545)=some r:=by first|(rw [hy545];with_reducible exact H)|(have H2_:=(Option.bind_some _ _).symm.trans H;rw [hy545];with_reducible exact H2_)|(have H2_:=(Option.bind_some _ _).symm.trans H;with_reducible exact H2_)|with_reducible exact H|(rw [hy545];exact H)|exact H
   have Ny545:=Aside0.mk hy545
   clear hy545
   obtain rfl:=Option.some.inj H
   have p543:0≤(0:Int):=(by omega)
   have q543:0 < (l0.length:Int):=of_decide_eq_true (by first|(with_reducible assumption)|assumption)
   obtain ⟨ad543,e543,hx543_0⟩:=Kd.at_string HR0.out 0 p543 q543
   cases e543
   have qi543:(0 < l0.length)=True:=eq_true (by omega)
   (try rw [show ((0:Int)).toNat=0 from rfl] at hx543_0)
   (try rw [Addr.add_zero'] at hx543_0)
   replace p543:=eq_true p543
   replace q543:=eq_true q543
   go_enter Try.func108,Try.ntmps108
   go_wp2_with (first|((with_reducible refine gate_callee (f:=49) rfl ?_);refine goesL_ (some 13) rfl rfl Try.func49 (by kernel_rfl) rfl #[.string (rdOf ByteArray.empty l0 0)] rfl (by (try simp only [List.map_toArray,List.map_cons,List.map_nil]);first|done|rfl|(simp only [List.length_drop,List.length_take];rfl)) ?_;(with_reducible refine (mosaicref03_LeafText.calls (rdOf ByteArray.empty l0 0) t544 _ A4.out).mono ?_);rintro e w' ⟨rfl,⟨nd,rfl⟩⟩;refine ⟨_,rfl,?_⟩)|((with_reducible refine gate_dst (N:=14) rfl ?_);refine Kd.R_lit Kd.string _ 9 ?hg (N:=14) ?hd (xs:=([t544]:List ByteArray)) (inner:=[.string t544]) (ok:=fun _=>True) (okp:=fun _=>True) ?hr ?hp (fun _ hk=>hk) trivial (Below.refl _ _) (Nat.le_refl _) (by simp) ?_;(case hd=>rfl);(case hg=>rfl);(case hr=>first|(go_simp;done)|(go_simp;rfl));(case hp=>exact (Reps.one (show Kd.M Kd.string _ _ _ t544 [.string t544] from rfl) (Reps.none _ _)));intro v546 w5 ho6 hb hg_ hnew_;clear hg_ hnew_;(first|rw [← Ny545.out] at ho6|(simp only [Int.reduceToNat] at ho6;rw [← Ny545.out] at ho6));have n0_:=Aside0.mk (Kd.R_lower ho6 (below_size (by repeat (first|(with_reducible first|exact HB.out|apply below_alloc|apply pw_below_drewN|apply below_drew1)|exact HB.out))));have n1_:=Aside0.mk (below_step (by repeat (first|(with_reducible first|exact HB.out|apply below_alloc|apply pw_below_drewN|apply below_drew1)|exact HB.out)) hb);clear HB;have HO547:=n0_;have HB:=n1_;clear n0_ n1_;clear hb ho6))
   go_ret
   exact ⟨_,by first|rfl|(simp [errW_none,errW_some] <;> rfl)|(simp [*,errW_none,errW_some] <;> rfl),by (with_reducible repeat (first|apply Kd.R_alloc|apply Kd.R_drewN|apply Kd.R_drew));exact HO547.out,by repeat (first|(with_reducible first|exact HB.out|apply below_alloc|apply pw_below_drewN|apply below_drew1)|exact HB.out)⟩
  ·
   rw [if_neg c3] at H
   exact absurd H (by simp)
 ·
  rw [if_neg c2] at H
  have c2b0:((l0.length:Int) == 1)=false:=beq_eq_false_iff_ne.mpr c2
  have c2b1:((l0.length:Int) != 1)=true:=bne_iff_ne.mpr c2
  replace H:=Option.bind_eq_some_iff.mp H
  obtain ⟨t548,A70,H⟩:=H
  replace H:(if 0≤t548 then (if t548≤(l0.length:Int) then ((mosaicref03_texts.f k (l0.take (t548:Int).toNat)).bind fun t550=>((mosaicref03_texts.f k (l0.drop (t548:Int).toNat)).bind fun t554=>(mosaicref03_texts.l0 k l0 t548 t550 t554 0))) else (none)) else (none))=some r:=H
  have A7:=Aside0.mk A70
  clear A70
  by_cases c8:0≤t548
  ·
   rw [if_pos c8] at H
   have c8b0:=eq_true c8
   have c8b1:decide (0≤t548)=true:=decide_eq_true c8
   clear c8
   by_cases c9:t548≤(l0.length:Int)
   ·
    rw [if_pos c9] at H
    have c9b0:=eq_true c9
    have c9b1:decide (t548≤(l0.length:Int))=true:=decide_eq_true c9
    clear c9
    replace H:=Option.bind_eq_some_iff.mp H
    obtain ⟨t550,A100,H⟩:=H
    replace H:((mosaicref03_texts.f k (l0.drop (t548:Int).toNat)).bind fun t554=>(mosaicref03_texts.l0 k l0 t548 t550 t554 0))=some r:=H
    have A10:=Aside0.mk A100
    clear A100
    have c11b0:=eq_true (of_decide_eq_true (by first|(with_reducible assumption)|assumption):0≤t548)
    have c12b0:=eq_true (of_decide_eq_true (by first|(with_reducible assumption)|assumption):t548≤(l0.length:Int))
    replace H:=Option.bind_eq_some_iff.mp H
    obtain ⟨t554,A130,H⟩:=H
    replace H:(mosaicref03_texts.l0 k l0 t548 t550 t554 0)=some r:=H
    have A13:=Aside0.mk A130
    clear A130
    have H':=Aside0.mk H
    clear H
    go_enter Try.func108,Try.ntmps108
    go_wp2_with (first|((with_reducible refine gate_callee (f:=99) rfl ?_);refine goesL_ (some 17) rfl rfl Try.func99 (by kernel_rfl) rfl #[.int .i64 (l0.length:Int)] rfl (by (try simp only [List.map_toArray,List.map_cons,List.map_nil]);first|done|rfl|(simp only [List.length_drop,List.length_take];rfl)) ?_;(with_reducible refine (mosaicref03_half.calls k (l0.length:Int) t548 _ A7.out).mono ?_);rintro e w' ⟨rfl,⟨nd,rfl⟩⟩;refine ⟨_,rfl,?_⟩;obtain ⟨i014,hi014,_,hsz14,_⟩:=info_parts info9;obtain ⟨hcut14,hA14,hC14⟩:=print_take_of (P:=Try.prog) Value.string (⟨#[]⟩:ByteArray) 39 9 .i64 Try.underlying39 hi014 hsz14 A0 c0 l0 t548 (of_decide_eq_true (by first|(with_reducible assumption)|assumption)) (of_decide_eq_true (by first|(with_reducible assumption)|assumption)) HC0.out;have HR549:=Aside0.mk (Kd.C_of_reads (h1:=fun _=>rfl) (hA14 _ (Kd.reads_of_C HR0.out)));have HC549:=Aside0.mk hC14;clear hA14 hC14 hi014 hsz14)|((with_reducible refine gate_callee (f:=108) rfl ?_);refine goesL_ (some 21) rfl rfl Try.func108 (by kernel_rfl) rfl #[.slice A0 (l0.take (t548:Int).toNat).length c0] rfl (by (try simp only [List.map_toArray,List.map_cons,List.map_nil]);first|done|(rw [show (l0.take (t548:Int).toNat).length=t548.toNat from (by rw [List.length_take];have h_:(t548:Int)≤(l0.length:Int):=of_decide_eq_true (by first|(with_reducible assumption)|assumption);omega)] <;> rfl)|rfl|(simp only [List.length_drop,List.length_take];rfl)) ?_;(with_reducible refine (ih k (by omega) _ _ (l0.take (t548:Int).toNat) t550 _ ?side1 ?side2 A10.out).mono ?_);(case side1=>repeat (first|exact HR549.out|(with_reducible refine Kd.C_alloc ?_ _)|(with_reducible refine Kd.C_drewN ?_ _)|(with_reducible refine Kd.C_drew ?_)));(case side2=>exact HC549.out);rintro e w15 ⟨v551,rfl,ho0,hb⟩;refine ⟨_,rfl,?_⟩;have n0_:=Aside0.mk (Kd.R_lower ho0 (below_size (by repeat (first|(with_reducible first|exact HB.out|apply below_alloc|apply pw_below_drewN|apply below_drew1)|exact HB.out))));have n1_:=Aside0.mk (below_step (by repeat (first|(with_reducible first|exact HB.out|apply below_alloc|apply pw_below_drewN|apply below_drew1)|exact HB.out)) hb);clear HB;have HO552:=n0_;have HB:=n1_;clear n0_ n1_;(try clear hb);(try clear hb2);(try clear hk);(try clear hi);(try clear ho0);obtain ⟨i016,hi016,_,hsz16,_⟩:=info_parts info9;obtain ⟨A16,hcut16,hA16,hC16⟩:=print_drop_of (P:=Try.prog) Value.string (⟨#[]⟩:ByteArray) 39 9 .i64 Try.underlying39 hi016 hsz16 A0 c0 l0 t548 (of_decide_eq_true (by first|(with_reducible assumption)|assumption)) (of_decide_eq_true (by first|(with_reducible assumption)|assumption)) HC0.out;have HR553:=Aside0.mk (Kd.C_of_reads (h1:=fun _=>rfl) (hA16 _ (Kd.reads_of_C HR0.out)));have HC553:=Aside0.mk hC16;clear hA16 hC16 hi016 hsz16)|((with_reducible refine gate_callee (f:=108) rfl ?_);refine goesL_ (some 25) rfl rfl Try.func108 (by kernel_rfl) rfl #[.slice A16 (l0.drop (t548:Int).toNat).length (c0 - t548.toNat)] rfl (by (try simp only [List.map_toArray,List.map_cons,List.map_nil]);first|done|(rw [show (l0.drop (t548:Int).toNat).length=(l0.length - t548.toNat) from List.length_drop] <;> rfl)|rfl|(simp only [List.length_drop,List.length_take];rfl)) ?_;(with_reducible refine (ih k (by omega) _ _ (l0.drop (t548:Int).toNat) t554 _ ?side1 ?side2 A13.out).mono ?_);(case side1=>repeat (first|exact (Kd.C_below HR553.out HB.out)|(with_reducible refine Kd.C_alloc ?_ _)|(with_reducible refine Kd.C_drewN ?_ _)|(with_reducible refine Kd.C_drew ?_)));(case side2=>exact HC553.out);rintro e w17 ⟨v555,rfl,ho0,hb⟩;refine ⟨_,rfl,?_⟩;have n0_:=Aside0.mk (Kd.R_elder' (by (with_reducible repeat (first|apply Kd.R_alloc|apply Kd.R_drewN|apply Kd.R_drew));exact HO552.out) (Kd.R_base ho0) hb);have n1_:=Aside0.mk (Kd.R_lower (Kd.R_new' ho0 (Kd.R_lt (by (with_reducible repeat (first|apply Kd.R_alloc|apply Kd.R_drewN|apply Kd.R_drew));exact HO552.out))) (below_size (by repeat (first|(with_reducible first|exact HB.out|apply below_alloc|apply pw_below_drewN|apply below_drew1)|exact HB.out))));have n2_:=Aside0.mk (below_step (by repeat (first|(with_reducible first|exact HB.out|apply below_alloc|apply pw_below_drewN|apply below_drew1)|exact HB.out)) hb);clear HO552;clear HB;have HO552:=n0_;have HO556:=n1_;have HB:=n2_;clear n0_ n1_ n2_;(try clear hb);(try clear hb2);(try clear hk);(try clear hi);(try clear ho0)))
    go_loopg [4,6] k (fun kq v4 v6 w'=>∃ (x4_1:List ByteArray) (x6_1:Int),v6=.int .i64 x6_1∧Aside0 (mosaicref03_texts.l0 kq l0 t548 x4_1 t554 x6_1=some r)∧Aside0 (kq≤k)∧Aside0 (Kd.R Kd.string 9 w' w.heap.size (fun k_=>some k_≠(v555:Value).ownBlock) v4 x4_1)∧Aside0 (Kd.R Kd.string 9 w' w.heap.size (fun k_=>some k_≠(v4:Value).ownBlock) v555 t554)∧Aside0 (Below w.heap.size w w'))
    case atStart=>exact ⟨(t550),(0),(by first|rfl|(simp;done)|(simp [*];done)),H',⟨Nat.le_refl _⟩,⟨by (with_reducible repeat (first|apply Kd.R_alloc|apply Kd.R_drewN|apply Kd.R_drew));exact Kd.R_mono HO552.out (fun _ hk=>hk.2)⟩,⟨by (with_reducible repeat (first|apply Kd.R_alloc|apply Kd.R_drewN|apply Kd.R_drew));exact Kd.R_mono HO556.out (fun _ hk=>hk.2)⟩,⟨by repeat (first|(with_reducible first|exact HB.out|apply below_alloc|apply pw_below_drewN|apply below_drew1)|exact HB.out)⟩⟩
    case round =>
     clear H'
     try clear c1
     try clear c2
     try clear c2b0
     try clear c2b1
     try clear p2
     try clear c3
     try clear c3b0
     try clear c3b1
     try clear c4
     try clear p5
     try clear q5
     try clear hx5
     try clear qi5
     try clear c8
     try clear c8b0
     try clear c8b1
     try clear c9
     try clear c9b0
     try clear c9b1
     try clear c10
     try clear c11
     try clear c11b0
     try clear c12
     try clear c12b0
     try clear hx543_0
     try clear p543
     try clear q543
     obtain ⟨x4_1,x6_1,rfl,HA,HK1,HO_4,HO_5,HB⟩:=hrel
     cases gk with
     | zero=>exact absurd HA.out (by simp [mosaicref03_texts.l0])
     | succ k1 =>
      have H:=HA.out
      clear HA
      simp only [mosaicref03_texts.l0] at H
      by_cases c18:x6_1 < (t554.length:Int)
      ·
       rw [if_pos c18] at H
       have c18b0:decide (x6_1 < (t554.length:Int))=true:=decide_eq_true c18
       clear c18
       by_cases c19:0≤x6_1
       ·
        rw [if_pos c19] at H
        have c19b0:decide (0≤x6_1)=true:=decide_eq_true c19
        clear c19
        by_cases c20:x4_1.length < 8796093022208
        ·
         rw [if_pos c20] at H
         have LMc20:=Aside0.mk c20
         clear c20
         obtain ⟨y558,hy558⟩:∃ y_:List ByteArray,y_=(x4_1 ++ [rdOf ByteArray.empty t554 x6_1]):=⟨_,rfl⟩
         replace H:(mosaicref03_texts.l0 k1 l0 t548 y558 t554 (wrap64 (x6_1+1)))=some r:=by first|(rw [hy558];with_reducible exact H)|(have H2_:=(Option.bind_some _ _).symm.trans H;rw [hy558];with_reducible exact H2_)|(have H2_:=(Option.bind_some _ _).symm.trans H;with_reducible exact H2_)|with_reducible exact H|(rw [hy558];exact H)|exact H
         have Ny558:=Aside0.mk hy558
         clear hy558
         have H':=Aside0.mk H
         clear H
         obtain ⟨Ao21,co21,eo21⟩:=Kd.R_slice HO_5.out
         subst eo21
         have p557:0≤(x6_1:Int):=of_decide_eq_true (by first|(with_reducible assumption)|assumption)
         have q557:x6_1 < (t554.length:Int):=of_decide_eq_true (by first|(with_reducible assumption)|assumption)
         obtain ⟨ad557,e557,hx557_0⟩:=Kd.at_string (Kd.R_reads' HO_5.out).2.2 x6_1 p557 q557
         cases e557
         replace p557:=eq_true p557
         replace q557:=eq_true q557
         go_wp2_with (first|((with_reducible refine gate_builtin (b:=.append) (xs:=#[.tmp 32,.tmp 37]) rfl ?_);at_builtin;refine Kd.R_append Kd.string (w0:=w) w.heap.size rfl (.tmp 32) (.tmp 37) 39 9 (.string ⟨#[]⟩) 16 rfl Try.underlying39 info9 rfl (by decide) (by omega) u4 x4_1 (rdOf ByteArray.empty t554 x6_1) [.string (rdOf ByteArray.empty t554 x6_1)] (fun k_=>some k_≠(.slice (some ad557) t554.length co21:Value).ownBlock) (fun _=>False) rfl rfl ?aP (fun _ hk=>hk.elim) ?aF ?aO ?aB ?aS ?aL ?_;(case aP=>exact rfl);(case aB=>exact (by repeat (first|(with_reducible first|exact HB.out|apply below_alloc|apply pw_below_drewN|apply below_drew1)|exact HB.out)));(case aF=>exact (fun k_ hk=>Kd.fresh' (Kd.R_lt (by (with_reducible repeat (first|apply Kd.R_alloc|apply Kd.R_drewN|apply Kd.R_drew));exact HO_5.out)) k_ hk));(case aO=>exact (by (with_reducible repeat (first|apply Kd.R_alloc|apply Kd.R_drewN|apply Kd.R_drew));exact HO_4.out));(case aS=>exact (below_size (by repeat (first|(with_reducible first|exact HB.out|apply below_alloc|apply pw_below_drewN|apply below_drew1)|exact HB.out))));(case aL=>have:=LMc20.out;omega);intro v559 w22 ho hb hg hat;rw [← Ny558.out] at ho;have n0_:=Aside0.mk (Kd.R_after (ok:=(fun _=>True)) (by (with_reducible repeat (first|apply Kd.R_alloc|apply Kd.R_drewN|apply Kd.R_drew));exact Kd.R_mono HO_5.out (fun _ hk=>⟨trivial,hk⟩)) hg hat);have n1_:=Aside0.mk (hb);have n2_:=Aside0.mk (ho);clear HO_5;clear HB;clear HO_4;have HO_5:=n0_;have HB:=n1_;have HO560:=n2_;clear n0_ n1_ n2_;clear ho hb hg hat))
         go_roundg k1
         case measure=>have:=HK1.out;omega
         case rel=>exact ⟨(y558),(wrap64 (x6_1+1)),(by first|rfl|(simp;done)|(simp [*];done)),H',⟨by have:=HK1.out;omega⟩,⟨by (with_reducible repeat (first|apply Kd.R_alloc|apply Kd.R_drewN|apply Kd.R_drew));exact HO560.out⟩,⟨by (with_reducible repeat (first|apply Kd.R_alloc|apply Kd.R_drewN|apply Kd.R_drew));exact Kd.R_mono HO_5.out (fun _ hk=>hk.2)⟩,⟨by repeat (first|(with_reducible first|exact HB.out|apply below_alloc|apply pw_below_drewN|apply below_drew1)|exact HB.out)⟩⟩
        ·
         rw [if_neg c20] at H
         exact absurd H (by simp)
       ·
        rw [if_neg c19] at H
        exact absurd H (by simp)
      ·
       rw [if_neg c18] at H
       have c18b0:decide (x6_1 < (t554.length:Int))=false:=decide_eq_false c18
       clear c18
       by_cases c23:0≤t548
       ·
        rw [if_pos c23] at H
        have c23b0:=eq_true c23
        have c23b1:decide (0≤t548)=true:=decide_eq_true c23
        clear c23
        by_cases c24:t548≤(l0.length:Int)
        ·
         rw [if_pos c24] at H
         have c24b0:=eq_true c24
         have c24b1:decide (t548≤(l0.length:Int))=true:=decide_eq_true c24
         clear c24
         replace H:=Option.bind_eq_some_iff.mp H
         obtain ⟨t562,A250,H⟩:=H
         replace H:((mosaicref03_Top.f k1 (l0.drop (t548:Int).toNat)).bind fun t564=>((mosaicref03_KnotText.f t562 t564).bind fun t565=>(if x4_1.length < 8796093022208 then (some (x4_1 ++ [t565])) else (none))))=some r:=H
         have A25:=Aside0.mk A250
         clear A250
         have c26b0:=eq_true (of_decide_eq_true (by first|(with_reducible assumption)|assumption):0≤t548)
         have c27b0:=eq_true (of_decide_eq_true (by first|(with_reducible assumption)|assumption):t548≤(l0.length:Int))
         replace H:=Option.bind_eq_some_iff.mp H
         obtain ⟨t564,A280,H⟩:=H
         replace H:((mosaicref03_KnotText.f t562 t564).bind fun t565=>(if x4_1.length < 8796093022208 then (some (x4_1 ++ [t565])) else (none)))=some r:=H
         have A28:=Aside0.mk A280
         clear A280
         replace H:=Option.bind_eq_some_iff.mp H
         obtain ⟨t565,A290,H⟩:=H
         replace H:(if x4_1.length < 8796093022208 then (some (x4_1 ++ [t565])) else (none))=some r:=H
         have A29:=Aside0.mk A290
         clear A290
         by_cases c30:x4_1.length < 8796093022208
         ·
          rw [if_pos c30] at H
          have LMc30:=Aside0.mk c30
          clear c30
          obtain ⟨y566,hy566⟩:∃ y_:List ByteArray,y_=(x4_1 ++ [t565]):=⟨_,rfl⟩
          replace H:(some y566)=some r:=by first|(rw [hy566];with_reducible exact H)|(have H2_:=(Option.bind_some _ _).symm.trans H;rw [hy566];with_reducible exact H2_)|(have H2_:=(Option.bind_some _ _).symm.trans H;with_reducible exact H2_)|with_reducible exact H|(rw [hy566];exact H)|exact H
          have Ny566:=Aside0.mk hy566
          clear hy566
          obtain rfl:=Option.some.inj H
          obtain ⟨Ao31,co31,eo31⟩:=Kd.R_slice HO_5.out
          subst eo31
          try go_wp2
          have n0_:=Aside0.mk (Kd.R_drew HO_4.out)
          have n1_:=Aside0.mk (Kd.R_drew HO_5.out)
          have n2_:=Aside0.mk (below_drew1 HB.out)
          clear HO_4
          clear HO_5
          clear HB
          have HO_4:=n0_
          have HO_5:=n1_
          have HB:=n2_
          clear n0_ n1_ n2_
          obtain ⟨i033,hi033,_,hsz33,_⟩:=info_parts info9
          obtain ⟨hcut33,hA33,hC33⟩:=print_take_of (P:=Try.prog) Value.string (⟨#[]⟩:ByteArray) 39 9 .i64 Try.underlying39 hi033 hsz33 A0 c0 l0 t548 (of_decide_eq_true (by first|(with_reducible assumption)|assumption)) (of_decide_eq_true (by first|(with_reducible assumption)|assumption)) HC0.out
          have HR561:=Aside0.mk (Kd.C_of_reads (h1:=fun _=>rfl) (hA33 _ (Kd.reads_of_C HR0.out)))
          have HC561:=Aside0.mk hC33
          clear hA33 hC33 hi033 hsz33
          obtain ⟨i034,hi034,_,hsz34,_⟩:=info_parts info9
          obtain ⟨A34,hcut34,hA34,hC34⟩:=print_drop_of (P:=Try.prog) Value.string (⟨#[]⟩:ByteArray) 39 9 .i64 Try.underlying39 hi034 hsz34 A0 c0 l0 t548 (of_decide_eq_true (by first|(with_reducible assumption)|assumption)) (of_decide_eq_true (by first|(with_reducible assumption)|assumption)) HC0.out
          obtain rfl:A34=A16:=by have h_:=(hcut34 w).symm.trans (hcut16 w);simpa using h_
          have HR563:=Aside0.mk (Kd.C_of_reads (h1:=fun _=>rfl) (hA34 _ (Kd.reads_of_C HR0.out)))
          have HC563:=Aside0.mk hC34
          clear hA34 hC34 hi034 hsz34
          refine start_ (n:=13) (S:=fun w'=>True) (ds:=[]) #[false,false,false,false,false,false,false,false,false,false,false,false,false] (by kernel_rfl) rfl rfl trivial (fun hHeld=>?_);refine with_tabW mosaicref03_texts.tab10 mosaicref03_texts.bits10 (fun HT_ HW_=>?_)
          generalize wr.drew=w32 at HO_4 HO_5 HB HR561 HR563 hHeld ⊢
          refine pure_ (i:=0) (N:=some 39) (v:=?_) (a':=?_) #[true,false,false,false,false,false,false,false,false,false,false,false,false] rfl rfl (any_of HT_.out (by kernel_rfl)) (fun _ _ _ h=>h) (Or.inl ⟨by rfl,?_⟩) ?_ ?_
          rotate_left
          ·
           intro w'
           go_simp
           with_reducible rfl
          rotate_left
          ·
           simp only [Act.put,List.setIfInBounds_toArray,List.set_cons_zero,List.set_cons_succ,i64_w,i32_w]
           rfl
          refine pure_ (i:=1) (N:=some 40) (v:=?_) (a':=?_) #[true,true,false,false,false,false,false,false,false,false,false,false,false] rfl rfl (any_of HT_.out (by kernel_rfl)) (fun _ _ _ h=>h) (Or.inl ⟨by rfl,?_⟩) ?_ ?_
          rotate_left
          ·
           intro w'
           go_simp
           with_reducible rfl
          rotate_left
          ·
           simp only [Act.put,List.setIfInBounds_toArray,List.set_cons_zero,List.set_cons_succ,i64_w,i32_w]
           rfl
          refine pure_ (i:=2) (N:=some 41) (v:=?_) (a':=?_) #[true,true,true,false,false,false,false,false,false,false,false,false,false] rfl rfl (any_of HT_.out (by kernel_rfl)) (fun _ _ _ h=>h) (Or.inl ⟨by rfl,?_⟩) ?_ ?_
          rotate_left
          ·
           intro w'
           go_simp
           with_reducible rfl
          rotate_left
          ·
           simp only [Act.put,List.setIfInBounds_toArray,List.set_cons_zero,List.set_cons_succ,i64_w,i32_w]
           rfl
          refine pure_ (i:=3) (N:=some 42) (v:=?_) (a':=?_) #[true,true,true,true,false,false,false,false,false,false,false,false,false] rfl rfl (any_of HT_.out (by kernel_rfl)) (fun _ _ _ h=>h) (Or.inl ⟨by rfl,?_⟩) ?_ ?_
          rotate_left
          ·
           intro w'
           go_simp
           with_reducible rfl
          rotate_left
          ·
           simp only [Act.put,List.setIfInBounds_toArray,List.set_cons_zero,List.set_cons_succ,i64_w,i32_w]
           rfl
          refine pure_ (i:=5) (N:=some 44) (v:=?_) (a':=?_) #[true,true,true,true,false,true,false,false,false,false,false,false,false] rfl rfl (any_of HT_.out (by kernel_rfl)) (fun _ _ _ h=>h) (Or.inl ⟨by rfl,?_⟩) ?_ ?_
          rotate_left
          ·
           intro w'
           go_simp
           with_reducible rfl
          rotate_left
          ·
           simp only [Act.put,List.setIfInBounds_toArray,List.set_cons_zero,List.set_cons_succ,i64_w,i32_w]
           rfl
          refine pure_ (i:=6) (N:=some 45) (v:=?_) (a':=?_) #[true,true,true,true,false,true,true,false,false,false,false,false,false] rfl rfl (any_of HT_.out (by kernel_rfl)) (fun _ _ _ h=>h) (Or.inl ⟨by rfl,?_⟩) ?_ ?_
          rotate_left
          ·
           intro w'
           go_simp
           with_reducible rfl
          rotate_left
          ·
           simp only [Act.put,List.setIfInBounds_toArray,List.set_cons_zero,List.set_cons_succ,i64_w,i32_w]
           rfl
          refine pure_ (i:=7) (N:=some 46) (v:=?_) (a':=?_) #[true,true,true,true,false,true,true,true,false,false,false,false,false] rfl rfl (any_of HT_.out (by kernel_rfl)) (fun _ _ _ h=>h) (Or.inl ⟨by rfl,?_⟩) ?_ ?_
          rotate_left
          ·
           intro w'
           go_simp
           with_reducible rfl
          rotate_left
          ·
           simp only [Act.put,List.setIfInBounds_toArray,List.set_cons_zero,List.set_cons_succ,i64_w,i32_w]
           rfl
          refine one_ (i:=4) (N:=some 43) #[true,true,true,true,true,true,true,true,false,false,false,false,false] rfl rfl (one_of HT_.out (by kernel_rfl)) (by decide) (fun K hK=>?_)
          refine goes_ Try.func95 (by kernel_rfl) rfl #[.slice A0 (l0.take (t548:Int).toNat).length c0] (by rfl) rfl rfl (by (try simp only [List.map_toArray,List.map_cons,List.map_nil]);first|done|(rw [show (l0.take (t548:Int).toNat).length=t548.toNat from (by rw [List.length_take];have h_:(t548:Int)≤(l0.length:Int):=of_decide_eq_true (by first|(with_reducible assumption)|assumption);omega)] <;> rfl)|rfl|(simp only [List.length_drop,List.length_take];rfl)) ?_
          with_reducible refine (mosaicref03_Top.calls k1 _ _ (l0.take (t548:Int).toNat) t562 _ ?side1 ?side2 A25.out).mono ?_
          (case side1=>repeat (first|exact (Kd.C_below HR561.out HB.out)|(with_reducible refine Kd.C_alloc ?_ _)|(with_reducible refine Kd.C_drewN ?_ _)|(with_reducible refine Kd.C_drew ?_)))
          (case side2=>exact HC561.out)
          rintro e w35 ⟨rfl,hb⟩
          refine ⟨_,rfl,?_⟩
          have n0_:=Aside0.mk (Kd.R_below (by (with_reducible repeat (first|apply Kd.R_alloc|apply Kd.R_drewN|apply Kd.R_drew));exact HO_4.out) hb)
          have n1_:=Aside0.mk (Kd.R_below (by (with_reducible repeat (first|apply Kd.R_alloc|apply Kd.R_drewN|apply Kd.R_drew));exact HO_5.out) hb)
          have n2_:=Aside0.mk (below_step (by repeat (first|(with_reducible first|exact HB.out|apply below_alloc|apply pw_below_drewN|apply below_drew1)|exact HB.out)) hb)
          clear HO_4
          clear HO_5
          clear HB
          have HO_4:=n0_
          have HO_5:=n1_
          have HB:=n2_
          clear n0_ n1_ n2_
          (try clear hb)
          (try clear hb2)
          (try clear hk)
          (try clear hi)
          refine hK.out _ _ trivial (fun hHeld=>?_)
          clear hK K
          refine norm_ (a':=?_) ?_ ?_
          rotate_left
          ·
           show Act.put _ (some 43) _=_
           simp only [Act.put,List.setIfInBounds_toArray,List.set_cons_zero,List.set_cons_succ,i64_w,i32_w]
           rfl
          refine one_ (i:=8) (N:=some 47) #[true,true,true,true,true,true,true,true,true,false,false,false,false] rfl rfl (one_of HT_.out (by kernel_rfl)) (by decide) (fun K hK=>?_)
          refine goes_ Try.func95 (by kernel_rfl) rfl #[.slice A34 (l0.drop (t548:Int).toNat).length (c0 - t548.toNat)] (by rfl) rfl rfl (by (try simp only [List.map_toArray,List.map_cons,List.map_nil]);first|done|(rw [show (l0.drop (t548:Int).toNat).length=(l0.length - t548.toNat) from List.length_drop] <;> rfl)|rfl|(simp only [List.length_drop,List.length_take];rfl)) ?_
          with_reducible refine (mosaicref03_Top.calls k1 _ _ (l0.drop (t548:Int).toNat) t564 _ ?side1 ?side2 A28.out).mono ?_
          (case side1=>repeat (first|exact (Kd.C_below HR563.out HB.out)|(with_reducible refine Kd.C_alloc ?_ _)|(with_reducible refine Kd.C_drewN ?_ _)|(with_reducible refine Kd.C_drew ?_)))
          (case side2=>exact HC563.out)
          rintro e w36 ⟨rfl,hb⟩
          refine ⟨_,rfl,?_⟩
          have n0_:=Aside0.mk (Kd.R_below (by (with_reducible repeat (first|apply Kd.R_alloc|apply Kd.R_drewN|apply Kd.R_drew));exact HO_4.out) hb)
          have n1_:=Aside0.mk (Kd.R_below (by (with_reducible repeat (first|apply Kd.R_alloc|apply Kd.R_drewN|apply Kd.R_drew));exact HO_5.out) hb)
          have n2_:=Aside0.mk (below_step (by repeat (first|(with_reducible first|exact HB.out|apply below_alloc|apply pw_below_drewN|apply below_drew1)|exact HB.out)) hb)
          clear HO_4
          clear HO_5
          clear HB
          have HO_4:=n0_
          have HO_5:=n1_
          have HB:=n2_
          clear n0_ n1_ n2_
          (try clear hb)
          (try clear hb2)
          (try clear hk)
          (try clear hi)
          refine hK.out _ _ trivial (fun hHeld=>?_)
          clear hK K
          refine norm_ (a':=?_) ?_ ?_
          rotate_left
          ·
           show Act.put _ (some 47) _=_
           simp only [Act.put,List.setIfInBounds_toArray,List.set_cons_zero,List.set_cons_succ,i64_w,i32_w]
           rfl
          refine one_ (i:=9) (N:=some 48) #[true,true,true,true,true,true,true,true,true,true,false,false,false] rfl rfl (one_of HT_.out (by kernel_rfl)) (by decide) (fun K hK=>?_)
          refine goes_ Try.func51 (by kernel_rfl) rfl #[.string t562,.string t564] (by rfl) rfl rfl (by (try simp only [List.map_toArray,List.map_cons,List.map_nil]);first|done|rfl|(simp only [List.length_drop,List.length_take];rfl)) ?_
          with_reducible refine (mosaicref03_KnotText.calls t562 t564 t565 _ A29.out).mono ?_
          rintro e w' ⟨rfl,⟨nd,rfl⟩⟩
          refine ⟨_,rfl,?_⟩
          refine hK.out _ _ trivial (fun hHeld=>?_)
          clear hK K
          refine norm_ (a':=?_) ?_ ?_
          rotate_left
          ·
           show Act.put _ (some 48) _=_
           simp only [Act.put,List.setIfInBounds_toArray,List.set_cons_zero,List.set_cons_succ,i64_w,i32_w]
           rfl
          refine one_ (i:=10) (N:=some 49) #[true,true,true,true,true,true,true,true,true,true,true,false,false] rfl rfl (one_of HT_.out (by kernel_rfl)) (by decide) (fun K hK=>?_)
          refine value_ (w1:=?_) (v:=?_) (by rfl) rfl ?_ ?_
          rotate_left 2
          ·
           go_simp
           constructor
           ·
            rfl
           ·
            rfl
          refine hK.out _ _ trivial (fun hHeld=>?_)
          clear hK K
          refine norm_ (a':=?_) ?_ ?_
          rotate_left
          ·
           show Act.put _ (some 49) _=_
           simp only [Act.put,List.setIfInBounds_toArray,List.set_cons_zero,List.set_cons_succ,i64_w,i32_w]
           rfl
          refine one_ (i:=11) (N:=some 50) #[true,true,true,true,true,true,true,true,true,true,true,true,false] rfl rfl (one_of HT_.out (by kernel_rfl)) (by decide) (fun K hK=>?_)
          refine Kd.R_append_step Kd.string (w0:=w) w.heap.size (by rfl) (.tmp 39) (.tmp 49) 39 9 (.string ⟨#[]⟩) 16 rfl Try.underlying39 info9 rfl (by decide) (by omega) u4 x4_1 t565 [.string t565] (fun k_=>some k_≠(.slice Ao31 t554.length co31:Value).ownBlock) (fun _=>False) rfl rfl ?aP (fun _ hk=>hk.elim) ?aF ?aO ?aB ?aS ?aL ?_
          (case aP=>exact rfl)
          (case aB=>exact (by repeat (first|(with_reducible first|exact HB.out|apply below_alloc|apply pw_below_drewN|apply below_drew1)|exact HB.out)))
          (case aF=>exact (fun k_ hk=>Kd.fresh' (Kd.R_lt (by (with_reducible repeat (first|apply Kd.R_alloc|apply Kd.R_drewN|apply Kd.R_drew));exact HO_5.out)) k_ hk))
          (case aO=>exact (by (with_reducible repeat (first|apply Kd.R_alloc|apply Kd.R_drewN|apply Kd.R_drew));exact HO_4.out))
          (case aS=>exact (below_size (by repeat (first|(with_reducible first|exact HB.out|apply below_alloc|apply pw_below_drewN|apply below_drew1)|exact HB.out))))
          (case aL=>have:=LMc30.out;omega)
          intro v567 w37 ho hb hg hat
          rw [← Ny566.out] at ho
          have n0_:=Aside0.mk (Kd.R_after (ok:=(fun _=>True)) (by (with_reducible repeat (first|apply Kd.R_alloc|apply Kd.R_drewN|apply Kd.R_drew));exact Kd.R_mono HO_5.out (fun _ hk=>⟨trivial,hk⟩)) hg hat)
          have n1_:=Aside0.mk (hb)
          have n2_:=Aside0.mk (ho)
          clear HO_5
          clear HB
          clear HO_4
          have HO_5:=n0_
          have HB:=n1_
          have HO568:=n2_
          clear n0_ n1_ n2_
          clear ho hb hg hat
          refine hK.out _ _ trivial (fun hHeld=>?_)
          clear hK K
          refine norm_ (a':=?_) ?_ ?_
          rotate_left
          ·
           show Act.put _ (some 50) _=_
           simp only [Act.put,List.setIfInBounds_toArray,List.set_cons_zero,List.set_cons_succ,i64_w,i32_w]
           rfl
          refine pure_ (i:=12) (N:=some 4) (v:=?_) (a':=?_) #[true,true,true,true,true,true,true,true,true,true,true,true,true] rfl rfl (any_of HT_.out (by kernel_rfl)) (fun _ _ _ h=>h) (Or.inl ⟨by rfl,?_⟩) ?_ ?_
          rotate_left
          ·
           intro w'
           go_simp
           with_reducible rfl
          rotate_left
          ·
           simp only [Act.put,List.setIfInBounds_toArray,List.set_cons_zero,List.set_cons_succ,i64_w,i32_w]
           rfl
          refine done_ (done_of HT_.out (by kernel_rfl)) ?_
          try go_wp2
          go_ret
          exact ⟨_,by first|rfl|(simp [errW_none,errW_some] <;> rfl)|(simp [*,errW_none,errW_some] <;> rfl),by (with_reducible repeat (first|apply Kd.R_alloc|apply Kd.R_drewN|apply Kd.R_drew));exact Kd.R_mono HO568.out (fun _ hk=>trivial),by repeat (first|(with_reducible first|exact HB.out|apply below_alloc|apply pw_below_drewN|apply below_drew1)|exact HB.out)⟩
         ·
          rw [if_neg c30] at H
          exact absurd H (by simp)
        ·
         rw [if_neg c24] at H
         exact absurd H (by simp)
       ·
        rw [if_neg c23] at H
        exact absurd H (by simp)
   ·
    rw [if_neg c9] at H
    exact absurd H (by simp)
  ·
   rw [if_neg c8] at H
   exact absurd H (by simp)
end Go.Proofs.Ytelcaepenfjloaa.Print
/-! #### Pr94 -/
namespace Go.Proofs.Ytelcaepenfjloaa.Print
open Go.RowKit Go.Proofs.YtelcaepenfjloaaW.PrintWords Go.Proofs.YtelcaepenfjloaaW.PrintLast Go.Proofs.YtelcaepenfjloaaW.PrintMore
attribute [local go_sem] max2_int min2_int max_two min_two max_three min_three max_four min_four
set_option linter.unusedVariables false
set_option linter.unusedSimpArgs false
/-! ### mosaicref03_May: function 94 -/
def mosaicref03_May.l0:Nat→List ByteArray→Int→Option (Int)
 | 0,_,_=>none
 | k+1,x0,x3=>if x3 < (x0.length:Int) then (if 0≤x3 then (if ((rdOf ByteArray.empty x0 x3).size:Int) > 1024 then (some 2) else (mosaicref03_May.l0 k x0 (wrap64 (x3+1)))) else (none)) else (some 0)
def mosaicref03_May.f (k:Nat) (l0:List ByteArray):Option (Int):=if (l0.length:Int)=0 then (some 1) else (if (l0.length:Int) > 256 then (some 2) else (mosaicref03_May.l0 k l0 0))
theorem mosaicref03_May.mono_l:∀ k,(∀ y0 y1,LeO (mosaicref03_May.l0 k y0 y1) (mosaicref03_May.l0 (k+1) y0 y1))
 | 0=>fun _ _ r h=>by simp [mosaicref03_May.l0] at h
 | k+1=>by
  have ih0:=mosaicref03_May.mono_l k
  ·
   intro y0 y1
   unfold mosaicref03_May.l0
   repeat' first
   | (with_reducible exact ih0 _ _)
   | (with_reducible exact LeO.refl _)
   | (with_reducible exact LeO.none _)
   | (with_reducible refine LeO.ite ?_ ?_)
   | (with_reducible refine LeO.bind ?_ (fun _=>?_))
   | exact ih0 _ _
   | exact LeO.none _
   | refine LeO.ite ?_ ?_
   | refine LeO.bind ?_ (fun _=>?_)
theorem mosaicref03_May.mono:∀ a0 k,LeO (mosaicref03_May.f k a0) (mosaicref03_May.f (k+1) a0):=by
 intro a0 k
 have ih0:=mosaicref03_May.mono_l k
 unfold mosaicref03_May.f
 repeat' first
   | (with_reducible exact ih0 _ _)
   | (with_reducible exact LeO.refl _)
   | (with_reducible exact LeO.none _)
   | (with_reducible refine LeO.ite ?_ ?_)
   | (with_reducible refine LeO.bind ?_ (fun _=>?_))
   | exact ih0 _ _
   | exact LeO.none _
   | refine LeO.ite ?_ ?_
   | refine LeO.bind ?_ (fun _=>?_)
set_option maxHeartbeats 8000000 in
set_option maxRecDepth 100000 in
theorem mosaicref03_May.calls (k:Nat) (A0:Option Addr) (c0:Nat) (l0:List ByteArray) (r:Int) (w:World) (hr0:Kd.C Kd.string w A0 l0.length l0) (hc0:l0.length≤c0) (h:mosaicref03_May.f k l0=some r) :
  Calls Try.prog 94 #[.slice A0 l0.length c0] w fun e w'=>e=.returned (.int .i64 r)∧Drawn0 w w':=by
 have HR0:=Aside0.mk hr0
 have HC0:=Aside0.mk hc0
 clear hr0 hc0
 have H:(if (l0.length:Int)=0 then (some 1) else (if (l0.length:Int) > 256 then (some 2) else (mosaicref03_May.l0 k l0 0)))=some r:=h
 clear h
 by_cases c2:(l0.length:Int)=0
 ·
  rw [if_pos c2] at H
  have c2b0:((l0.length:Int) == 0)=true:=beq_iff_eq.mpr c2
  have c2b1:((l0.length:Int) != 0)=false:=bne_eq_false_iff_eq.mpr c2
  clear c2
  obtain rfl:=Option.some.inj H
  go_enter Try.func94,Try.ntmps94
  go_wp2
  go_ret
  exact ⟨by first|rfl|(simp;done)|(simp [*];done),by repeat (first|exact Drawn0.refl _|apply Drawn0.step)⟩
 ·
  rw [if_neg c2] at H
  have c2b0:((l0.length:Int) == 0)=false:=beq_eq_false_iff_ne.mpr c2
  have c2b1:((l0.length:Int) != 0)=true:=bne_iff_ne.mpr c2
  have c2b2:¬ (l0=[]):=fun h_=>c2 (by rw [h_];rfl)
  by_cases c3:(l0.length:Int) > 256
  ·
   rw [if_pos c3] at H
   have c3b0:decide (256 < (l0.length:Int))=true:=decide_eq_true c3
   have c3b1:decide (256 < l0.length)=true:=decide_eq_true (by omega)
   clear c3
   obtain rfl:=Option.some.inj H
   go_enter Try.func94,Try.ntmps94
   go_wp2
   go_ret
   exact ⟨by first|rfl|(simp;done)|(simp [*];done),by repeat (first|exact Drawn0.refl _|apply Drawn0.step)⟩
  ·
   rw [if_neg c3] at H
   have c3b0:decide (256 < (l0.length:Int))=false:=decide_eq_false c3
   have c3b1:decide (256 < l0.length)=false:=decide_eq_false (by omega)
   clear c3
   have H':=Aside0.mk H
   clear H
   go_enter Try.func94,Try.ntmps94
   go_wp2
   go_loopg [3] k (fun kq v3 w'=>∃ (x3_1:Int),v3=.int .i64 x3_1∧Aside0 (mosaicref03_May.l0 kq l0 x3_1=some r)∧Aside0 (kq≤k)∧Drawn0 w w')
   case atStart=>exact ⟨(0),(by first|rfl|(simp;done)|(simp [*];done)),H',⟨Nat.le_refl _⟩,by repeat (first|exact Drawn0.refl _|apply Drawn0.step)⟩
   case round =>
    clear H'
    try clear c2
    try clear c2b0
    try clear c2b1
    try clear c2b2
    try clear p2
    try clear c3
    try clear c3b0
    try clear c3b1
    obtain ⟨x3_1,rfl,HA,HK1,⟨m1,rfl⟩⟩:=hrel
    cases gk with
    | zero=>exact absurd HA.out (by simp [mosaicref03_May.l0])
    | succ k1 =>
     have H:=HA.out
     clear HA
     simp only [mosaicref03_May.l0] at H
     by_cases c4:x3_1 < (l0.length:Int)
     ·
      rw [if_pos c4] at H
      have c4b0:decide (x3_1 < (l0.length:Int))=true:=decide_eq_true c4
      clear c4
      by_cases c5:0≤x3_1
      ·
       rw [if_pos c5] at H
       have c5b0:decide (0≤x3_1)=true:=decide_eq_true c5
       clear c5
       by_cases c6:((rdOf ByteArray.empty l0 x3_1).size:Int) > 1024
       ·
        rw [if_pos c6] at H
        have c6b0:decide (1024 < ((rdOf ByteArray.empty l0 x3_1).size:Int))=true:=decide_eq_true c6
        have c6b1:decide (1024 < (rdOf ByteArray.empty l0 x3_1).size)=true:=decide_eq_true (by omega)
        clear c6
        obtain rfl:=Option.some.inj H
        have p304:0≤(x3_1:Int):=of_decide_eq_true (by first|(with_reducible assumption)|assumption)
        have q304:x3_1 < (l0.length:Int):=of_decide_eq_true (by first|(with_reducible assumption)|assumption)
        obtain ⟨ad304,e304,hx304_0⟩:=Kd.at_string HR0.out x3_1 p304 q304
        cases e304
        replace p304:=eq_true p304
        replace q304:=eq_true q304
        go_wp2
        go_ret
        exact ⟨by first|rfl|(simp;done)|(simp [*];done),by repeat (first|exact Drawn0.refl _|apply Drawn0.step)⟩
       ·
        rw [if_neg c6] at H
        have c6b0:decide (1024 < ((rdOf ByteArray.empty l0 x3_1).size:Int))=false:=decide_eq_false c6
        have c6b1:decide (1024 < (rdOf ByteArray.empty l0 x3_1).size)=false:=decide_eq_false (by omega)
        clear c6
        have H':=Aside0.mk H
        clear H
        have p304:0≤(x3_1:Int):=of_decide_eq_true (by first|(with_reducible assumption)|assumption)
        have q304:x3_1 < (l0.length:Int):=of_decide_eq_true (by first|(with_reducible assumption)|assumption)
        obtain ⟨ad304,e304,hx304_0⟩:=Kd.at_string HR0.out x3_1 p304 q304
        cases e304
        replace p304:=eq_true p304
        replace q304:=eq_true q304
        go_wp2
        go_roundg k1
        case measure=>have:=HK1.out;omega
        case rel=>exact ⟨(wrap64 (x3_1+1)),(by first|rfl|(simp;done)|(simp [*];done)),H',⟨by have:=HK1.out;omega⟩,by repeat (first|exact Drawn0.refl _|apply Drawn0.step)⟩
      ·
       rw [if_neg c5] at H
       exact absurd H (by simp)
     ·
      rw [if_neg c4] at H
      have c4b0:decide (x3_1 < (l0.length:Int))=false:=decide_eq_false c4
      clear c4
      obtain rfl:=Option.some.inj H
      go_wp2
      go_ret
      exact ⟨by first|rfl|(simp;done)|(simp [*];done),by repeat (first|exact Drawn0.refl _|apply Drawn0.step)⟩
end Go.Proofs.Ytelcaepenfjloaa.Print
/-! #### Pr74 -/
namespace Go.Proofs.Ytelcaepenfjloaa.Print
open Go.RowKit Go.Proofs.YtelcaepenfjloaaW.PrintWords Go.Proofs.YtelcaepenfjloaaW.PrintLast Go.Proofs.YtelcaepenfjloaaW.PrintMore
attribute [local go_sem] max2_int min2_int max_two min_two max_three min_three max_four min_four
set_option linter.unusedVariables false
set_option linter.unusedSimpArgs false
/-! ### mosaicref03_Texts: function 74 -/
def mosaicref03_Texts.f (k:Nat) (l0:List ByteArray):Option (List ByteArray):=(mosaicref03_May.f k l0).bind fun t569=>(if t569=0 then ((mosaicref03_texts.f k l0).bind fun t570=>(some t570)) else (some ([]:List ByteArray)))
theorem mosaicref03_Texts.mono:∀ a0 k,LeO (mosaicref03_Texts.f k a0) (mosaicref03_Texts.f (k+1) a0):=by
 intro a0 k
 unfold mosaicref03_Texts.f
 repeat' first
   | (with_reducible exact mosaicref03_May.mono _ _)
   | (with_reducible exact mosaicref03_texts.mono _ _)
   | (with_reducible exact LeO.refl _)
   | (with_reducible exact LeO.none _)
   | (with_reducible refine LeO.ite ?_ ?_)
   | (with_reducible refine LeO.bind ?_ (fun _=>?_))
   | exact mosaicref03_May.mono _ _
   | exact mosaicref03_texts.mono _ _
   | exact LeO.none _
   | refine LeO.ite ?_ ?_
   | refine LeO.bind ?_ (fun _=>?_)
set_option maxHeartbeats 8000000 in
set_option maxRecDepth 100000 in
theorem mosaicref03_Texts.calls (k:Nat) (A0:Option Addr) (c0:Nat) (l0:List ByteArray) (r:List ByteArray) (w:World) (hr0:Kd.C Kd.string w A0 l0.length l0) (hc0:l0.length≤c0) (h:mosaicref03_Texts.f k l0=some r) :
  Calls Try.prog 74 #[.slice A0 l0.length c0] w fun e w'=>∃ v0_:Value,e=.returned (v0_)∧Kd.R Kd.string 9 w' w.heap.size (fun _=>True) v0_ r∧Below w.heap.size w w':=by
 have HR0:=Aside0.mk hr0
 have HC0:=Aside0.mk hc0
 clear hr0 hc0
 have HB:=Aside0.mk (Below.refl w.heap.size w)
 have H:((mosaicref03_May.f k l0).bind fun t569=>(if t569=0 then ((mosaicref03_texts.f k l0).bind fun t570=>(some t570)) else (some ([]:List ByteArray))))=some r:=h
 clear h
 replace H:=Option.bind_eq_some_iff.mp H
 obtain ⟨t569,A20,H⟩:=H
 replace H:(if t569=0 then ((mosaicref03_texts.f k l0).bind fun t570=>(some t570)) else (some ([]:List ByteArray)))=some r:=H
 have A2:=Aside0.mk A20
 clear A20
 by_cases c3:t569=0
 ·
  rw [if_pos c3] at H
  have c3b0:(t569 == 0)=true:=beq_iff_eq.mpr c3
  have c3b1:(t569 != 0)=false:=bne_eq_false_iff_eq.mpr c3
  clear c3
  replace H:=Option.bind_eq_some_iff.mp H
  obtain ⟨t570,A40,H⟩:=H
  replace H:(some t570)=some r:=H
  have A4:=Aside0.mk A40
  clear A40
  obtain rfl:=Option.some.inj H
  go_enter Try.func74,Try.ntmps74
  go_wp2_with (first|((with_reducible refine gate_callee (f:=94) rfl ?_);refine goesL_ (some 4) rfl rfl Try.func94 (by kernel_rfl) rfl #[.slice A0 l0.length c0] rfl (by (try simp only [List.map_toArray,List.map_cons,List.map_nil]);first|done|rfl|(simp only [List.length_drop,List.length_take];rfl)) ?_;(with_reducible refine (mosaicref03_May.calls k _ _ l0 t569 _ ?side1 ?side2 A2.out).mono ?_);(case side1=>repeat (first|exact HR0.out|(with_reducible refine Kd.C_alloc ?_ _)|(with_reducible refine Kd.C_drewN ?_ _)|(with_reducible refine Kd.C_drew ?_)));(case side2=>exact HC0.out);rintro e w' ⟨rfl,⟨nd,rfl⟩⟩;refine ⟨_,rfl,?_⟩)|((with_reducible refine gate_callee (f:=108) rfl ?_);refine goesL_ (some 7) rfl rfl Try.func108 (by kernel_rfl) rfl #[.slice A0 l0.length c0] rfl (by (try simp only [List.map_toArray,List.map_cons,List.map_nil]);first|done|rfl|(simp only [List.length_drop,List.length_take];rfl)) ?_;(with_reducible refine (mosaicref03_texts.calls k _ _ l0 t570 _ ?side1 ?side2 A4.out).mono ?_);(case side1=>repeat (first|exact HR0.out|(with_reducible refine Kd.C_alloc ?_ _)|(with_reducible refine Kd.C_drewN ?_ _)|(with_reducible refine Kd.C_drew ?_)));(case side2=>exact HC0.out);rintro e w5 ⟨v571,rfl,ho0,hb⟩;refine ⟨_,rfl,?_⟩;have n0_:=Aside0.mk (Kd.R_lower ho0 (below_size (by repeat (first|(with_reducible first|exact HB.out|apply below_alloc|apply pw_below_drewN|apply below_drew1)|exact HB.out))));have n1_:=Aside0.mk (below_step (by repeat (first|(with_reducible first|exact HB.out|apply below_alloc|apply pw_below_drewN|apply below_drew1)|exact HB.out)) hb);clear HB;have HO572:=n0_;have HB:=n1_;clear n0_ n1_;(try clear hb);(try clear hb2);(try clear hk);(try clear hi);(try clear ho0)))
  go_ret
  exact ⟨_,by first|rfl|(simp [errW_none,errW_some] <;> rfl)|(simp [*,errW_none,errW_some] <;> rfl),by (with_reducible repeat (first|apply Kd.R_alloc|apply Kd.R_drewN|apply Kd.R_drew));exact HO572.out,by repeat (first|(with_reducible first|exact HB.out|apply below_alloc|apply pw_below_drewN|apply below_drew1)|exact HB.out)⟩
 ·
  rw [if_neg c3] at H
  have c3b0:(t569 == 0)=false:=beq_eq_false_iff_ne.mpr c3
  have c3b1:(t569 != 0)=true:=bne_iff_ne.mpr c3
  obtain rfl:=Option.some.inj H
  go_enter Try.func74,Try.ntmps74
  go_wp2_with (first|((with_reducible refine gate_callee (f:=94) rfl ?_);refine goesL_ (some 4) rfl rfl Try.func94 (by kernel_rfl) rfl #[.slice A0 l0.length c0] rfl (by (try simp only [List.map_toArray,List.map_cons,List.map_nil]);first|done|rfl|(simp only [List.length_drop,List.length_take];rfl)) ?_;(with_reducible refine (mosaicref03_May.calls k _ _ l0 t569 _ ?side1 ?side2 A2.out).mono ?_);(case side1=>repeat (first|exact HR0.out|(with_reducible refine Kd.C_alloc ?_ _)|(with_reducible refine Kd.C_drewN ?_ _)|(with_reducible refine Kd.C_drew ?_)));(case side2=>exact HC0.out);rintro e w' ⟨rfl,⟨nd,rfl⟩⟩;refine ⟨_,rfl,?_⟩))
  go_ret
  exact ⟨_,by first|rfl|(simp [errW_none,errW_some] <;> rfl)|(simp [*,errW_none,errW_some] <;> rfl),by first|exact Kd.R_nil _ _ _ _ _|exact Kd.N_nil _ _ _ _ _|exact Kd.V_nil _ _ _ _ _|exact Kd.Q_nil _ _ _ _ _|exact Kd.S_nil _ _ _ _ _,by repeat (first|(with_reducible first|exact HB.out|apply below_alloc|apply pw_below_drewN|apply below_drew1)|exact HB.out)⟩
end Go.Proofs.Ytelcaepenfjloaa.Print
/-! #### Pr20 -/
namespace Go.Proofs.Ytelcaepenfjloaa.Print
open Go.RowKit Go.Proofs.YtelcaepenfjloaaW.PrintWords Go.Proofs.YtelcaepenfjloaaW.PrintLast Go.Proofs.YtelcaepenfjloaaW.PrintMore
attribute [local go_sem] max2_int min2_int max_two min_two max_three min_three max_four min_four
set_option linter.unusedVariables false
set_option linter.unusedSimpArgs false
/-! ### mosaiclaw03_MerkleTexts: function 20 -/
def mosaiclaw03_MerkleTexts.f (k:Nat) (l0:List ByteArray):Option (Bool):=(mosaiclaw03_few.f k l0 25 1100).bind fun t573=>(if t573=true then ((merkle_Texts.f k l0).bind fun t575=>((mosaicref03_Texts.f k l0).bind fun t578=>((mosaicref03_Same.f k t575 t578).bind fun t581=>(if t581=true then ((merkle_Root.f k l0).bind fun bt582=>(if bt582.2=0 then ((mosaiclaw03_awake.f k).bind fun t584=>(if t584=true then (if (t575.length:Int)=(wrap64 ((wrap64 (2 * (l0.length:Int))) - 1)) then (if 0≤(wrap64 ((t575.length:Int) - 1)) then (if (wrap64 ((t575.length:Int) - 1)) < (t575.length:Int) then ((mosaicref01_Sum.f k (rdOf ByteArray.empty t575 (wrap64 ((t575.length:Int) - 1)))).bind fun t586=>(some (t586.toList == bt582.1.toList))) else (none)) else (none)) else (some false)) else (some false))) else ((mosaiclaw03_awake.f k).bind fun t587=>(if t587=true then (some ((t575.length:Int) == 0)) else (some false))))) else (some false))))) else ((mosaiclaw03_awake.f k).bind fun t574=>(some t574)))
theorem mosaiclaw03_MerkleTexts.mono:∀ a0 k,LeO (mosaiclaw03_MerkleTexts.f k a0) (mosaiclaw03_MerkleTexts.f (k+1) a0):=by
 intro a0 k
 unfold mosaiclaw03_MerkleTexts.f
 repeat' first
   | (with_reducible exact merkle_Root.mono _ _)
   | (with_reducible exact merkle_Texts.mono _ _)
   | (with_reducible exact mosaiclaw03_awake.mono _)
   | (with_reducible exact mosaiclaw03_few.mono _ _ _ _)
   | (with_reducible exact mosaicref01_Sum.mono _ _)
   | (with_reducible exact mosaicref03_Same.mono _ _ _)
   | (with_reducible exact mosaicref03_Texts.mono _ _)
   | (with_reducible exact LeO.refl _)
   | (with_reducible exact LeO.none _)
   | (with_reducible refine LeO.ite ?_ ?_)
   | (with_reducible refine LeO.bind ?_ (fun _=>?_))
   | exact merkle_Root.mono _ _
   | exact merkle_Texts.mono _ _
   | exact mosaiclaw03_awake.mono _
   | exact mosaiclaw03_few.mono _ _ _ _
   | exact mosaicref01_Sum.mono _ _
   | exact mosaicref03_Same.mono _ _ _
   | exact mosaicref03_Texts.mono _ _
   | exact LeO.none _
   | refine LeO.ite ?_ ?_
   | refine LeO.bind ?_ (fun _=>?_)
set_option maxHeartbeats 8000000 in
set_option maxRecDepth 100000 in
theorem mosaiclaw03_MerkleTexts.callsT (k:Nat) (A0:Option Addr) (c0:Nat) (l0:List ByteArray) (w:World) (hr0:Kd.C Kd.string w A0 l0.length l0) (hc0:l0.length≤c0) (h:mosaiclaw03_MerkleTexts.f k l0=some true) :
  Calls Try.prog 20 #[.slice A0 l0.length c0] w fun e w'=>e=.returned (.bool true)∧Below w.heap.size w w':=by
 have HR0:=Aside0.mk hr0
 have HC0:=Aside0.mk hc0
 clear hr0 hc0
 have HB:=Aside0.mk (Below.refl w.heap.size w)
 have H:((mosaiclaw03_few.f k l0 25 1100).bind fun t573=>(if t573=true then ((merkle_Texts.f k l0).bind fun t575=>((mosaicref03_Texts.f k l0).bind fun t578=>((mosaicref03_Same.f k t575 t578).bind fun t581=>(if t581=true then ((merkle_Root.f k l0).bind fun bt582=>(if bt582.2=0 then ((mosaiclaw03_awake.f k).bind fun t584=>(if t584=true then (if (t575.length:Int)=(wrap64 ((wrap64 (2 * (l0.length:Int))) - 1)) then (if 0≤(wrap64 ((t575.length:Int) - 1)) then (if (wrap64 ((t575.length:Int) - 1)) < (t575.length:Int) then ((mosaicref01_Sum.f k (rdOf ByteArray.empty t575 (wrap64 ((t575.length:Int) - 1)))).bind fun t586=>(some (t586.toList == bt582.1.toList))) else (none)) else (none)) else (some false)) else (some false))) else ((mosaiclaw03_awake.f k).bind fun t587=>(if t587=true then (some ((t575.length:Int) == 0)) else (some false))))) else (some false))))) else ((mosaiclaw03_awake.f k).bind fun t574=>(some t574))))=some true:=h
 clear h
 replace H:=Option.bind_eq_some_iff.mp H
 obtain ⟨t573,A20,H⟩:=H
 replace H:(if t573=true then ((merkle_Texts.f k l0).bind fun t575=>((mosaicref03_Texts.f k l0).bind fun t578=>((mosaicref03_Same.f k t575 t578).bind fun t581=>(if t581=true then ((merkle_Root.f k l0).bind fun bt582=>(if bt582.2=0 then ((mosaiclaw03_awake.f k).bind fun t584=>(if t584=true then (if (t575.length:Int)=(wrap64 ((wrap64 (2 * (l0.length:Int))) - 1)) then (if 0≤(wrap64 ((t575.length:Int) - 1)) then (if (wrap64 ((t575.length:Int) - 1)) < (t575.length:Int) then ((mosaicref01_Sum.f k (rdOf ByteArray.empty t575 (wrap64 ((t575.length:Int) - 1)))).bind fun t586=>(some (t586.toList == bt582.1.toList))) else (none)) else (none)) else (some false)) else (some false))) else ((mosaiclaw03_awake.f k).bind fun t587=>(if t587=true then (some ((t575.length:Int) == 0)) else (some false))))) else (some false))))) else ((mosaiclaw03_awake.f k).bind fun t574=>(some t574)))=some true:=H
 have A2:=Aside0.mk A20
 clear A20
 by_cases c3:t573=true
 ·
  subst c3
  have H1:((merkle_Texts.f k l0).bind fun t575=>((mosaicref03_Texts.f k l0).bind fun t578=>((mosaicref03_Same.f k t575 t578).bind fun t581=>(if t581=true then ((merkle_Root.f k l0).bind fun bt582=>(if bt582.2=0 then ((mosaiclaw03_awake.f k).bind fun t584=>(if t584=true then (if (t575.length:Int)=(wrap64 ((wrap64 (2 * (l0.length:Int))) - 1)) then (if 0≤(wrap64 ((t575.length:Int) - 1)) then (if (wrap64 ((t575.length:Int) - 1)) < (t575.length:Int) then ((mosaicref01_Sum.f k (rdOf ByteArray.empty t575 (wrap64 ((t575.length:Int) - 1)))).bind fun t586=>(some (t586.toList == bt582.1.toList))) else (none)) else (none)) else (some false)) else (some false))) else ((mosaiclaw03_awake.f k).bind fun t587=>(if t587=true then (some ((t575.length:Int) == 0)) else (some false))))) else (some false)))))=some true:=by rw [if_pos rfl] at H;exact H
  clear H
  have H:=H1
  clear H1
  replace H:=Option.bind_eq_some_iff.mp H
  obtain ⟨t575,A40,H⟩:=H
  replace H:((mosaicref03_Texts.f k l0).bind fun t578=>((mosaicref03_Same.f k t575 t578).bind fun t581=>(if t581=true then ((merkle_Root.f k l0).bind fun bt582=>(if bt582.2=0 then ((mosaiclaw03_awake.f k).bind fun t584=>(if t584=true then (if (t575.length:Int)=(wrap64 ((wrap64 (2 * (l0.length:Int))) - 1)) then (if 0≤(wrap64 ((t575.length:Int) - 1)) then (if (wrap64 ((t575.length:Int) - 1)) < (t575.length:Int) then ((mosaicref01_Sum.f k (rdOf ByteArray.empty t575 (wrap64 ((t575.length:Int) - 1)))).bind fun t586=>(some (t586.toList == bt582.1.toList))) else (none)) else (none)) else (some false)) else (some false))) else ((mosaiclaw03_awake.f k).bind fun t587=>(if t587=true then (some ((t575.length:Int) == 0)) else (some false))))) else (some false))))=some true:=H
  have A4:=Aside0.mk A40
  clear A40
  replace H:=Option.bind_eq_some_iff.mp H
  obtain ⟨t578,A50,H⟩:=H
  replace H:((mosaicref03_Same.f k t575 t578).bind fun t581=>(if t581=true then ((merkle_Root.f k l0).bind fun bt582=>(if bt582.2=0 then ((mosaiclaw03_awake.f k).bind fun t584=>(if t584=true then (if (t575.length:Int)=(wrap64 ((wrap64 (2 * (l0.length:Int))) - 1)) then (if 0≤(wrap64 ((t575.length:Int) - 1)) then (if (wrap64 ((t575.length:Int) - 1)) < (t575.length:Int) then ((mosaicref01_Sum.f k (rdOf ByteArray.empty t575 (wrap64 ((t575.length:Int) - 1)))).bind fun t586=>(some (t586.toList == bt582.1.toList))) else (none)) else (none)) else (some false)) else (some false))) else ((mosaiclaw03_awake.f k).bind fun t587=>(if t587=true then (some ((t575.length:Int) == 0)) else (some false))))) else (some false)))=some true:=H
  have A5:=Aside0.mk A50
  clear A50
  replace H:=Option.bind_eq_some_iff.mp H
  obtain ⟨t581,A60,H⟩:=H
  replace H:(if t581=true then ((merkle_Root.f k l0).bind fun bt582=>(if bt582.2=0 then ((mosaiclaw03_awake.f k).bind fun t584=>(if t584=true then (if (t575.length:Int)=(wrap64 ((wrap64 (2 * (l0.length:Int))) - 1)) then (if 0≤(wrap64 ((t575.length:Int) - 1)) then (if (wrap64 ((t575.length:Int) - 1)) < (t575.length:Int) then ((mosaicref01_Sum.f k (rdOf ByteArray.empty t575 (wrap64 ((t575.length:Int) - 1)))).bind fun t586=>(some (t586.toList == bt582.1.toList))) else (none)) else (none)) else (some false)) else (some false))) else ((mosaiclaw03_awake.f k).bind fun t587=>(if t587=true then (some ((t575.length:Int) == 0)) else (some false))))) else (some false))=some true:=H
  have A6:=Aside0.mk A60
  clear A60
  by_cases c7:t581=true
  ·
   subst c7
   have H1:((merkle_Root.f k l0).bind fun bt582=>(if bt582.2=0 then ((mosaiclaw03_awake.f k).bind fun t584=>(if t584=true then (if (t575.length:Int)=(wrap64 ((wrap64 (2 * (l0.length:Int))) - 1)) then (if 0≤(wrap64 ((t575.length:Int) - 1)) then (if (wrap64 ((t575.length:Int) - 1)) < (t575.length:Int) then ((mosaicref01_Sum.f k (rdOf ByteArray.empty t575 (wrap64 ((t575.length:Int) - 1)))).bind fun t586=>(some (t586.toList == bt582.1.toList))) else (none)) else (none)) else (some false)) else (some false))) else ((mosaiclaw03_awake.f k).bind fun t587=>(if t587=true then (some ((t575.length:Int) == 0)) else (some false)))))=some true:=by rw [if_pos rfl] at H;exact H
   clear H
   have H:=H1
   clear H1
   replace H:=Option.bind_eq_some_iff.mp H
   obtain ⟨⟨t582,t583⟩,A80,H⟩:=H
   replace H:(if t583=0 then ((mosaiclaw03_awake.f k).bind fun t584=>(if t584=true then (if (t575.length:Int)=(wrap64 ((wrap64 (2 * (l0.length:Int))) - 1)) then (if 0≤(wrap64 ((t575.length:Int) - 1)) then (if (wrap64 ((t575.length:Int) - 1)) < (t575.length:Int) then ((mosaicref01_Sum.f k (rdOf ByteArray.empty t575 (wrap64 ((t575.length:Int) - 1)))).bind fun t586=>(some (t586.toList == t582.toList))) else (none)) else (none)) else (some false)) else (some false))) else ((mosaiclaw03_awake.f k).bind fun t587=>(if t587=true then (some ((t575.length:Int) == 0)) else (some false))))=some true:=H
   have A8:=Aside0.mk A80
   clear A80
   by_cases c9:t583=0
   ·
    rw [if_pos c9] at H
    have c9b0:(t583 == 0)=true:=beq_iff_eq.mpr c9
    have c9b1:(t583 != 0)=false:=bne_eq_false_iff_eq.mpr c9
    clear c9
    replace H:=Option.bind_eq_some_iff.mp H
    obtain ⟨t584,A100,H⟩:=H
    replace H:(if t584=true then (if (t575.length:Int)=(wrap64 ((wrap64 (2 * (l0.length:Int))) - 1)) then (if 0≤(wrap64 ((t575.length:Int) - 1)) then (if (wrap64 ((t575.length:Int) - 1)) < (t575.length:Int) then ((mosaicref01_Sum.f k (rdOf ByteArray.empty t575 (wrap64 ((t575.length:Int) - 1)))).bind fun t586=>(some (t586.toList == t582.toList))) else (none)) else (none)) else (some false)) else (some false))=some true:=H
    have A10:=Aside0.mk A100
    clear A100
    by_cases c11:t584=true
    ·
     subst c11
     have H1:(if (t575.length:Int)=(wrap64 ((wrap64 (2 * (l0.length:Int))) - 1)) then (if 0≤(wrap64 ((t575.length:Int) - 1)) then (if (wrap64 ((t575.length:Int) - 1)) < (t575.length:Int) then ((mosaicref01_Sum.f k (rdOf ByteArray.empty t575 (wrap64 ((t575.length:Int) - 1)))).bind fun t586=>(some (t586.toList == t582.toList))) else (none)) else (none)) else (some false))=some true:=by rw [if_pos rfl] at H;exact H
     clear H
     have H:=H1
     clear H1
     by_cases c12:(t575.length:Int)=(wrap64 ((wrap64 (2 * (l0.length:Int))) - 1))
     ·
      rw [if_pos c12] at H
      have c12b0:((t575.length:Int) == (wrap64 ((wrap64 (2 * (l0.length:Int))) - 1)))=true:=beq_iff_eq.mpr c12
      have c12b1:((t575.length:Int) != (wrap64 ((wrap64 (2 * (l0.length:Int))) - 1)))=false:=bne_eq_false_iff_eq.mpr c12
      clear c12
      obtain ⟨ji13,hji13⟩:∃ j_:Int,(wrap64 ((t575.length:Int) - 1))=j_:=⟨_,rfl⟩
      replace H:(if 0≤(ji13) then (if (ji13) < (t575.length:Int) then ((mosaicref01_Sum.f k (rdOf ByteArray.empty t575 (ji13))).bind fun t586=>(some (t586.toList == t582.toList))) else (none)) else (none))=some true:=by first|(rw [hji13] at H;exact H)|(simp only [hji13] at H ⊢;exact H)
      (try rw [hji13] at A2)
      (try rw [hji13] at A4)
      (try rw [hji13] at A5)
      (try rw [hji13] at A6)
      (try rw [hji13] at A8)
      (try rw [hji13] at A10)
      have hji13w:(IntKind.i64.wrap ((t575.length:Int) - 1))=ji13:=(i64_w _).trans hji13
      by_cases c14:0≤(ji13)
      ·
       rw [if_pos c14] at H
       have c14b0:decide (0≤(ji13))=true:=decide_eq_true c14
       clear c14
       by_cases c15:(ji13) < (t575.length:Int)
       ·
        rw [if_pos c15] at H
        have c15b0:decide ((ji13) < (t575.length:Int))=true:=decide_eq_true c15
        clear c15
        replace H:=Option.bind_eq_some_iff.mp H
        obtain ⟨t586,A160,H⟩:=H
        replace H:(some (t586.toList == t582.toList))=some true:=H
        have A16:=Aside0.mk A160
        clear A160
        first|(obtain rfl:=Option.some.inj H)|(have HT_:=Option.some.inj H)
        go_enter Try.func20,Try.ntmps20
        go_wp2_with (first|((with_reducible refine gate_callee (f:=44) rfl ?_);refine goesL_ (some 7) rfl rfl Try.func44 (by kernel_rfl) rfl #[.slice A0 l0.length c0,.int .i64 25,.int .i64 1100] rfl (by (try simp only [List.map_toArray,List.map_cons,List.map_nil]);first|done|rfl|(simp only [List.length_drop,List.length_take];rfl)) ?_;(with_reducible refine (mosaiclaw03_few.calls k _ _ l0 25 1100 true _ ?side1 ?side2 A2.out).mono ?_);(case side1=>repeat (first|exact HR0.out|(with_reducible refine Kd.C_alloc ?_ _)|(with_reducible refine Kd.C_drewN ?_ _)|(with_reducible refine Kd.C_drew ?_)));(case side2=>exact HC0.out);rintro e w' ⟨rfl,⟨nd,rfl⟩⟩;refine ⟨_,rfl,?_⟩)|((with_reducible refine gate_callee (f:=73) rfl ?_);refine goesL_ (some 11) rfl rfl Try.func73 (by kernel_rfl) rfl #[.slice A0 l0.length c0] rfl (by (try simp only [List.map_toArray,List.map_cons,List.map_nil]);first|done|rfl|(simp only [List.length_drop,List.length_take];rfl)) ?_;(with_reducible refine (merkle_Texts.calls k _ _ l0 t575 _ ?side1 ?side2 A4.out).mono ?_);(case side1=>repeat (first|exact HR0.out|(with_reducible refine Kd.C_alloc ?_ _)|(with_reducible refine Kd.C_drewN ?_ _)|(with_reducible refine Kd.C_drew ?_)));(case side2=>exact HC0.out);rintro e w17 ⟨v576,rfl,ho0,hb⟩;refine ⟨_,rfl,?_⟩;have n0_:=Aside0.mk (Kd.R_lower ho0 (below_size (by repeat (first|(with_reducible first|exact HB.out|apply below_alloc|apply pw_below_drewN|apply below_drew1)|exact HB.out))));have n1_:=Aside0.mk (below_step (by repeat (first|(with_reducible first|exact HB.out|apply below_alloc|apply pw_below_drewN|apply below_drew1)|exact HB.out)) hb);clear HB;have HO577:=n0_;have HB:=n1_;clear n0_ n1_;(try clear hb);(try clear hb2);(try clear hk);(try clear hi);(try clear ho0))|((with_reducible refine gate_callee (f:=74) rfl ?_);refine goesL_ (some 14) rfl rfl Try.func74 (by kernel_rfl) rfl #[.slice A0 l0.length c0] rfl (by (try simp only [List.map_toArray,List.map_cons,List.map_nil]);first|done|rfl|(simp only [List.length_drop,List.length_take];rfl)) ?_;(with_reducible refine (mosaicref03_Texts.calls k _ _ l0 t578 _ ?side1 ?side2 A5.out).mono ?_);(case side1=>repeat (first|exact (Kd.C_below HR0.out HB.out)|(with_reducible refine Kd.C_alloc ?_ _)|(with_reducible refine Kd.C_drewN ?_ _)|(with_reducible refine Kd.C_drew ?_)));(case side2=>exact HC0.out);rintro e w18 ⟨v579,rfl,ho0,hb⟩;refine ⟨_,rfl,?_⟩;have n0_:=Aside0.mk (Kd.R_elder' (by (with_reducible repeat (first|apply Kd.R_alloc|apply Kd.R_drewN|apply Kd.R_drew));exact HO577.out) (Kd.R_base ho0) hb);have n1_:=Aside0.mk (Kd.R_lower (Kd.R_new' ho0 (Kd.R_lt (by (with_reducible repeat (first|apply Kd.R_alloc|apply Kd.R_drewN|apply Kd.R_drew));exact HO577.out))) (below_size (by repeat (first|(with_reducible first|exact HB.out|apply below_alloc|apply pw_below_drewN|apply below_drew1)|exact HB.out))));have n2_:=Aside0.mk (below_step (by repeat (first|(with_reducible first|exact HB.out|apply below_alloc|apply pw_below_drewN|apply below_drew1)|exact HB.out)) hb);clear HO577;clear HB;have HO577:=n0_;have HO580:=n1_;have HB:=n2_;clear n0_ n1_ n2_;(try clear hb);(try clear hb2);(try clear hk);(try clear hi);(try clear ho0);obtain ⟨Ao19,co19,eo19⟩:=Kd.R_slice HO577.out;subst eo19;obtain ⟨Ao20,co20,eo20⟩:=Kd.R_slice HO580.out;subst eo20)|((with_reducible refine gate_callee (f:=54) rfl ?_);refine goesL_ (some 15) rfl rfl Try.func54 (by kernel_rfl) rfl #[.slice Ao19 t575.length co19,.slice Ao20 t578.length co20] rfl (by (try simp only [List.map_toArray,List.map_cons,List.map_nil]);first|done|rfl|(simp only [List.length_drop,List.length_take];rfl)) ?_;(with_reducible refine (mosaicref03_Same.calls k _ _ t575 _ _ t578 true _ ?side1 ?side2 ?side3 ?side4 A6.out).mono ?_);(case side1=>repeat (first|exact (Kd.R_reads' HO577.out).2.2|(with_reducible refine Kd.C_alloc ?_ _)|(with_reducible refine Kd.C_drewN ?_ _)|(with_reducible refine Kd.C_drew ?_)));(case side2=>exact (Kd.R_reads' HO577.out).2.1);(case side3=>repeat (first|exact (Kd.R_reads' HO580.out).2.2|(with_reducible refine Kd.C_alloc ?_ _)|(with_reducible refine Kd.C_drewN ?_ _)|(with_reducible refine Kd.C_drew ?_)));(case side4=>exact (Kd.R_reads' HO580.out).2.1);rintro e w' ⟨rfl,⟨nd,rfl⟩⟩;refine ⟨_,rfl,?_⟩)|((with_reducible refine gate_callee (f:=46) rfl ?_);refine goesL_ (some 19) rfl rfl Try.func46 (by kernel_rfl) rfl #[.slice A0 l0.length c0] rfl (by (try simp only [List.map_toArray,List.map_cons,List.map_nil]);first|done|rfl|(simp only [List.length_drop,List.length_take];rfl)) ?_;(with_reducible refine (merkle_Root.calls k _ _ l0 t582 t583 _ ?side1 ?side2 A8.out).mono ?_);(case side1=>repeat (first|exact (Kd.C_below HR0.out (by repeat (first|(with_reducible first|exact HB.out|apply below_alloc|apply pw_below_drewN|apply below_drew1)|exact HB.out)))|(with_reducible refine Kd.C_alloc ?_ _)|(with_reducible refine Kd.C_drewN ?_ _)|(with_reducible refine Kd.C_drew ?_)));(case side2=>exact HC0.out);rintro e w21 ⟨rfl,hb⟩;refine ⟨_,rfl,?_⟩;have n0_:=Aside0.mk (Kd.R_below (by (with_reducible repeat (first|apply Kd.R_alloc|apply Kd.R_drewN|apply Kd.R_drew));exact HO577.out) hb);have n1_:=Aside0.mk (Kd.R_below (by (with_reducible repeat (first|apply Kd.R_alloc|apply Kd.R_drewN|apply Kd.R_drew));exact HO580.out) hb);have n2_:=Aside0.mk (below_step (by repeat (first|(with_reducible first|exact HB.out|apply below_alloc|apply pw_below_drewN|apply below_drew1)|exact HB.out)) hb);clear HO577;clear HO580;clear HB;have HO577:=n0_;have HO580:=n1_;have HB:=n2_;clear n0_ n1_ n2_;(try clear hb);(try clear hb2);(try clear hk);(try clear hi))|((with_reducible refine gate_callee (f:=45) rfl ?_);refine goesL_ (some 30) rfl rfl Try.func45 (by kernel_rfl) rfl #[] rfl (by (try simp only [List.map_toArray,List.map_cons,List.map_nil]);first|done|rfl|(simp only [List.length_drop,List.length_take];rfl)) ?_;(with_reducible refine (mosaiclaw03_awake.calls k  true _ A10.out).mono ?_);rintro e w22 ⟨rfl,hb⟩;refine ⟨_,rfl,?_⟩;have n0_:=Aside0.mk (Kd.R_below (by (with_reducible repeat (first|apply Kd.R_alloc|apply Kd.R_drewN|apply Kd.R_drew));exact HO577.out) hb);have n1_:=Aside0.mk (Kd.R_below (by (with_reducible repeat (first|apply Kd.R_alloc|apply Kd.R_drewN|apply Kd.R_drew));exact HO580.out) hb);have n2_:=Aside0.mk (below_step (by repeat (first|(with_reducible first|exact HB.out|apply below_alloc|apply pw_below_drewN|apply below_drew1)|exact HB.out)) hb);clear HO577;clear HO580;clear HB;have HO577:=n0_;have HO580:=n1_;have HB:=n2_;clear n0_ n1_ n2_;(try clear hb);(try clear hb2);(try clear hk);(try clear hi);have p585:0≤((ji13):Int):=of_decide_eq_true (by first|(with_reducible assumption)|assumption);have q585:(ji13) < (t575.length:Int):=of_decide_eq_true (by first|(with_reducible assumption)|assumption);obtain ⟨ad585,e585,hx585_0⟩:=Kd.at_string (Kd.R_reads' HO577.out).2.2 (ji13) p585 q585;cases e585;replace p585:=eq_true p585;replace q585:=eq_true q585)|(go_at_call 27;(with_reducible refine (mosaicref01_Sum.calls k (rdOf ByteArray.empty t575 (ji13)) t586 _ A16.out).mono ?_);rintro e w23 ⟨rfl,hb⟩;have n0_:=Aside0.mk (Kd.R_below (by (with_reducible repeat (first|apply Kd.R_alloc|apply Kd.R_drewN|apply Kd.R_drew));exact HO577.out) hb);have n1_:=Aside0.mk (Kd.R_below (by (with_reducible repeat (first|apply Kd.R_alloc|apply Kd.R_drewN|apply Kd.R_drew));exact HO580.out) hb);have n2_:=Aside0.mk (below_step (by repeat (first|(with_reducible first|exact HB.out|apply below_alloc|apply pw_below_drewN|apply below_drew1)|exact HB.out)) hb);clear HO577;clear HO580;clear HB;have HO577:=n0_;have HO580:=n1_;have HB:=n2_;clear n0_ n1_ n2_;(try clear hb);(try clear hb2);(try clear hk);(try clear hi)))
        go_ret
        exact ⟨by first|rfl|(simp [errW_none,errW_some] <;> rfl)|(simp only [← hji13];first|rfl|(simp [errW_none,errW_some] <;> rfl))|(simp [*,errW_none,errW_some] <;> rfl),by repeat (first|(with_reducible first|exact HB.out|apply below_alloc|apply pw_below_drewN|apply below_drew1)|exact HB.out)⟩
       ·
        rw [if_neg c15] at H
        exact absurd H (by simp)
      ·
       rw [if_neg c14] at H
       exact absurd H (by simp)
     ·
      rw [if_neg c12] at H
      have c12b0:((t575.length:Int) == (wrap64 ((wrap64 (2 * (l0.length:Int))) - 1)))=false:=beq_eq_false_iff_ne.mpr c12
      have c12b1:((t575.length:Int) != (wrap64 ((wrap64 (2 * (l0.length:Int))) - 1)))=true:=bne_iff_ne.mpr c12
      exact absurd (Option.some.inj H) (by simp)
    ·
     replace c11:=Bool.eq_false_iff.mpr c11
     subst c11
     have H1:(some false)=some true:=by rw [if_neg (show ¬ (false=true) by decide)] at H;exact H
     clear H
     have H:=H1
     clear H1
     exact absurd (Option.some.inj H) (by simp)
   ·
    rw [if_neg c9] at H
    have c9b0:(t583 == 0)=false:=beq_eq_false_iff_ne.mpr c9
    have c9b1:(t583 != 0)=true:=bne_iff_ne.mpr c9
    replace H:=Option.bind_eq_some_iff.mp H
    obtain ⟨t587,A360,H⟩:=H
    replace H:(if t587=true then (some ((t575.length:Int) == 0)) else (some false))=some true:=H
    have A36:=Aside0.mk A360
    clear A360
    by_cases c37:t587=true
    ·
     subst c37
     have H1:(some ((t575.length:Int) == 0))=some true:=by rw [if_pos rfl] at H;exact H
     clear H
     have H:=H1
     clear H1
     first|(obtain rfl:=Option.some.inj H)|(have HT_:=Option.some.inj H)
     go_enter Try.func20,Try.ntmps20
     go_wp2_with (first|((with_reducible refine gate_callee (f:=44) rfl ?_);refine goesL_ (some 7) rfl rfl Try.func44 (by kernel_rfl) rfl #[.slice A0 l0.length c0,.int .i64 25,.int .i64 1100] rfl (by (try simp only [List.map_toArray,List.map_cons,List.map_nil]);first|done|rfl|(simp only [List.length_drop,List.length_take];rfl)) ?_;(with_reducible refine (mosaiclaw03_few.calls k _ _ l0 25 1100 true _ ?side1 ?side2 A2.out).mono ?_);(case side1=>repeat (first|exact HR0.out|(with_reducible refine Kd.C_alloc ?_ _)|(with_reducible refine Kd.C_drewN ?_ _)|(with_reducible refine Kd.C_drew ?_)));(case side2=>exact HC0.out);rintro e w' ⟨rfl,⟨nd,rfl⟩⟩;refine ⟨_,rfl,?_⟩)|((with_reducible refine gate_callee (f:=73) rfl ?_);refine goesL_ (some 11) rfl rfl Try.func73 (by kernel_rfl) rfl #[.slice A0 l0.length c0] rfl (by (try simp only [List.map_toArray,List.map_cons,List.map_nil]);first|done|rfl|(simp only [List.length_drop,List.length_take];rfl)) ?_;(with_reducible refine (merkle_Texts.calls k _ _ l0 t575 _ ?side1 ?side2 A4.out).mono ?_);(case side1=>repeat (first|exact HR0.out|(with_reducible refine Kd.C_alloc ?_ _)|(with_reducible refine Kd.C_drewN ?_ _)|(with_reducible refine Kd.C_drew ?_)));(case side2=>exact HC0.out);rintro e w38 ⟨v576,rfl,ho0,hb⟩;refine ⟨_,rfl,?_⟩;have n0_:=Aside0.mk (Kd.R_lower ho0 (below_size (by repeat (first|(with_reducible first|exact HB.out|apply below_alloc|apply pw_below_drewN|apply below_drew1)|exact HB.out))));have n1_:=Aside0.mk (below_step (by repeat (first|(with_reducible first|exact HB.out|apply below_alloc|apply pw_below_drewN|apply below_drew1)|exact HB.out)) hb);clear HB;have HO577:=n0_;have HB:=n1_;clear n0_ n1_;(try clear hb);(try clear hb2);(try clear hk);(try clear hi);(try clear ho0))|((with_reducible refine gate_callee (f:=74) rfl ?_);refine goesL_ (some 14) rfl rfl Try.func74 (by kernel_rfl) rfl #[.slice A0 l0.length c0] rfl (by (try simp only [List.map_toArray,List.map_cons,List.map_nil]);first|done|rfl|(simp only [List.length_drop,List.length_take];rfl)) ?_;(with_reducible refine (mosaicref03_Texts.calls k _ _ l0 t578 _ ?side1 ?side2 A5.out).mono ?_);(case side1=>repeat (first|exact (Kd.C_below HR0.out HB.out)|(with_reducible refine Kd.C_alloc ?_ _)|(with_reducible refine Kd.C_drewN ?_ _)|(with_reducible refine Kd.C_drew ?_)));(case side2=>exact HC0.out);rintro e w39 ⟨v579,rfl,ho0,hb⟩;refine ⟨_,rfl,?_⟩;have n0_:=Aside0.mk (Kd.R_elder' (by (with_reducible repeat (first|apply Kd.R_alloc|apply Kd.R_drewN|apply Kd.R_drew));exact HO577.out) (Kd.R_base ho0) hb);have n1_:=Aside0.mk (Kd.R_lower (Kd.R_new' ho0 (Kd.R_lt (by (with_reducible repeat (first|apply Kd.R_alloc|apply Kd.R_drewN|apply Kd.R_drew));exact HO577.out))) (below_size (by repeat (first|(with_reducible first|exact HB.out|apply below_alloc|apply pw_below_drewN|apply below_drew1)|exact HB.out))));have n2_:=Aside0.mk (below_step (by repeat (first|(with_reducible first|exact HB.out|apply below_alloc|apply pw_below_drewN|apply below_drew1)|exact HB.out)) hb);clear HO577;clear HB;have HO577:=n0_;have HO580:=n1_;have HB:=n2_;clear n0_ n1_ n2_;(try clear hb);(try clear hb2);(try clear hk);(try clear hi);(try clear ho0);obtain ⟨Ao40,co40,eo40⟩:=Kd.R_slice HO577.out;subst eo40;obtain ⟨Ao41,co41,eo41⟩:=Kd.R_slice HO580.out;subst eo41)|((with_reducible refine gate_callee (f:=54) rfl ?_);refine goesL_ (some 15) rfl rfl Try.func54 (by kernel_rfl) rfl #[.slice Ao40 t575.length co40,.slice Ao41 t578.length co41] rfl (by (try simp only [List.map_toArray,List.map_cons,List.map_nil]);first|done|rfl|(simp only [List.length_drop,List.length_take];rfl)) ?_;(with_reducible refine (mosaicref03_Same.calls k _ _ t575 _ _ t578 true _ ?side1 ?side2 ?side3 ?side4 A6.out).mono ?_);(case side1=>repeat (first|exact (Kd.R_reads' HO577.out).2.2|(with_reducible refine Kd.C_alloc ?_ _)|(with_reducible refine Kd.C_drewN ?_ _)|(with_reducible refine Kd.C_drew ?_)));(case side2=>exact (Kd.R_reads' HO577.out).2.1);(case side3=>repeat (first|exact (Kd.R_reads' HO580.out).2.2|(with_reducible refine Kd.C_alloc ?_ _)|(with_reducible refine Kd.C_drewN ?_ _)|(with_reducible refine Kd.C_drew ?_)));(case side4=>exact (Kd.R_reads' HO580.out).2.1);rintro e w' ⟨rfl,⟨nd,rfl⟩⟩;refine ⟨_,rfl,?_⟩)|((with_reducible refine gate_callee (f:=46) rfl ?_);refine goesL_ (some 19) rfl rfl Try.func46 (by kernel_rfl) rfl #[.slice A0 l0.length c0] rfl (by (try simp only [List.map_toArray,List.map_cons,List.map_nil]);first|done|rfl|(simp only [List.length_drop,List.length_take];rfl)) ?_;(with_reducible refine (merkle_Root.calls k _ _ l0 t582 t583 _ ?side1 ?side2 A8.out).mono ?_);(case side1=>repeat (first|exact (Kd.C_below HR0.out (by repeat (first|(with_reducible first|exact HB.out|apply below_alloc|apply pw_below_drewN|apply below_drew1)|exact HB.out)))|(with_reducible refine Kd.C_alloc ?_ _)|(with_reducible refine Kd.C_drewN ?_ _)|(with_reducible refine Kd.C_drew ?_)));(case side2=>exact HC0.out);rintro e w42 ⟨rfl,hb⟩;refine ⟨_,rfl,?_⟩;have n0_:=Aside0.mk (Kd.R_below (by (with_reducible repeat (first|apply Kd.R_alloc|apply Kd.R_drewN|apply Kd.R_drew));exact HO577.out) hb);have n1_:=Aside0.mk (Kd.R_below (by (with_reducible repeat (first|apply Kd.R_alloc|apply Kd.R_drewN|apply Kd.R_drew));exact HO580.out) hb);have n2_:=Aside0.mk (below_step (by repeat (first|(with_reducible first|exact HB.out|apply below_alloc|apply pw_below_drewN|apply below_drew1)|exact HB.out)) hb);clear HO577;clear HO580;clear HB;have HO577:=n0_;have HO580:=n1_;have HB:=n2_;clear n0_ n1_ n2_;(try clear hb);(try clear hb2);(try clear hk);(try clear hi))|((with_reducible refine gate_callee (f:=45) rfl ?_);refine goesL_ (some 24) rfl rfl Try.func45 (by kernel_rfl) rfl #[] rfl (by (try simp only [List.map_toArray,List.map_cons,List.map_nil]);first|done|rfl|(simp only [List.length_drop,List.length_take];rfl)) ?_;(with_reducible refine (mosaiclaw03_awake.calls k  true _ A36.out).mono ?_);rintro e w43 ⟨rfl,hb⟩;refine ⟨_,rfl,?_⟩;have n0_:=Aside0.mk (Kd.R_below (by (with_reducible repeat (first|apply Kd.R_alloc|apply Kd.R_drewN|apply Kd.R_drew));exact HO577.out) hb);have n1_:=Aside0.mk (Kd.R_below (by (with_reducible repeat (first|apply Kd.R_alloc|apply Kd.R_drewN|apply Kd.R_drew));exact HO580.out) hb);have n2_:=Aside0.mk (below_step (by repeat (first|(with_reducible first|exact HB.out|apply below_alloc|apply pw_below_drewN|apply below_drew1)|exact HB.out)) hb);clear HO577;clear HO580;clear HB;have HO577:=n0_;have HO580:=n1_;have HB:=n2_;clear n0_ n1_ n2_;(try clear hb);(try clear hb2);(try clear hk);(try clear hi)))
     go_ret
     exact ⟨by first|rfl|(simp [errW_none,errW_some] <;> rfl)|(simp [*,errW_none,errW_some] <;> rfl),by repeat (first|(with_reducible first|exact HB.out|apply below_alloc|apply pw_below_drewN|apply below_drew1)|exact HB.out)⟩
    ·
     replace c37:=Bool.eq_false_iff.mpr c37
     subst c37
     have H1:(some false)=some true:=by rw [if_neg (show ¬ (false=true) by decide)] at H;exact H
     clear H
     have H:=H1
     clear H1
     exact absurd (Option.some.inj H) (by simp)
  ·
   replace c7:=Bool.eq_false_iff.mpr c7
   subst c7
   have H1:(some false)=some true:=by rw [if_neg (show ¬ (false=true) by decide)] at H;exact H
   clear H
   have H:=H1
   clear H1
   exact absurd (Option.some.inj H) (by simp)
 ·
  replace c3:=Bool.eq_false_iff.mpr c3
  subst c3
  have H1:((mosaiclaw03_awake.f k).bind fun t574=>(some t574))=some true:=by rw [if_neg (show ¬ (false=true) by decide)] at H;exact H
  clear H
  have H:=H1
  clear H1
  replace H:=Option.bind_eq_some_iff.mp H
  obtain ⟨t574,A540,H⟩:=H
  replace H:(some t574)=some true:=H
  have A54:=Aside0.mk A540
  clear A540
  obtain rfl:=Option.some.inj H
  go_enter Try.func20,Try.ntmps20
  go_wp2_with (first|((with_reducible refine gate_callee (f:=44) rfl ?_);refine goesL_ (some 7) rfl rfl Try.func44 (by kernel_rfl) rfl #[.slice A0 l0.length c0,.int .i64 25,.int .i64 1100] rfl (by (try simp only [List.map_toArray,List.map_cons,List.map_nil]);first|done|rfl|(simp only [List.length_drop,List.length_take];rfl)) ?_;(with_reducible refine (mosaiclaw03_few.calls k _ _ l0 25 1100 false _ ?side1 ?side2 A2.out).mono ?_);(case side1=>repeat (first|exact HR0.out|(with_reducible refine Kd.C_alloc ?_ _)|(with_reducible refine Kd.C_drewN ?_ _)|(with_reducible refine Kd.C_drew ?_)));(case side2=>exact HC0.out);rintro e w' ⟨rfl,⟨nd,rfl⟩⟩;refine ⟨_,rfl,?_⟩)|((with_reducible refine gate_callee (f:=45) rfl ?_);refine goesL_ (some 9) rfl rfl Try.func45 (by kernel_rfl) rfl #[] rfl (by (try simp only [List.map_toArray,List.map_cons,List.map_nil]);first|done|rfl|(simp only [List.length_drop,List.length_take];rfl)) ?_;(with_reducible refine (mosaiclaw03_awake.calls k  true _ A54.out).mono ?_);rintro e w55 ⟨rfl,hb⟩;refine ⟨_,rfl,?_⟩;have n0_:=Aside0.mk (below_step (by repeat (first|(with_reducible first|exact HB.out|apply below_alloc|apply pw_below_drewN|apply below_drew1)|exact HB.out)) hb);clear HB;have HB:=n0_;clear n0_;(try clear hb);(try clear hb2);(try clear hk);(try clear hi)))
  go_ret
  exact ⟨by first|rfl|(simp [errW_none,errW_some] <;> rfl)|(simp [*,errW_none,errW_some] <;> rfl),by repeat (first|(with_reducible first|exact HB.out|apply below_alloc|apply pw_below_drewN|apply below_drew1)|exact HB.out)⟩
end Go.Proofs.Ytelcaepenfjloaa.Print
/-! #### StmMerkleTexts -/
namespace Go.Proofs.Ytelcaepenfjloaa.Print
open Go.RowKit Go.Proofs.YtelcaepenfjloaaW.PrintWords
/-- THE ONE PURE STATEMENT of mosaiclaw03_MerkleTexts. -/
def mosaiclaw03_MerkleTexts.Pure:Prop:=∀ (l0:List ByteArray),((l0:List ByteArray).length≤maxLen∧∀ x1_∈(l0:List ByteArray),(x1_:ByteArray).size≤maxLen)→∃ k,mosaiclaw03_MerkleTexts.f k l0=some true
end Go.Proofs.Ytelcaepenfjloaa.Print
